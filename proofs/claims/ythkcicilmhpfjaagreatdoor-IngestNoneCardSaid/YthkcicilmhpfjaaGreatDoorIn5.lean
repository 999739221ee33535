/- A part of the proof. -/
import Derived.Shelf.Strconv.Itoa0
import Derived.Ground.NamesProg
import Derived.Test.YthkcicilmhpfjaaGreatDoorProg
import Derived.LoopN
import Derived.Laws.BytesArg
import Derived.Shelf.Strings.Builder1
import Derived.Lib.AppendStr
import Derived.Maps.Own
import Derived.Maps.RangeRun
import Derived.Maps.OwnOps
import Derived.Test.YthkcicilmhpfjaaGreatDoorIn4

/- spans.Check of any span. -/
namespace Go.Proofs.YthkcicilmhpfjaaGreatDoor
open Go.RowKit

def aggS (m : Spn) : Value := .agg #[.int .i64 m.tr, .int .i64 m.id, .int .i64 m.pa, .string m.se, .string m.ho, .int .i64 m.st, .int .i64 m.du, .string m.no]
def numsV (p : Nat) : Value := .agg #[.pointer (some ⟨p, 0, none⟩), .int .i64 1, .int .i64 2147483647, .pointer (some ⟨p, 1, none⟩), .int .i64 1, .int .i64 2147483647, .pointer (some ⟨p, 2, none⟩), .int .i64 0, .int .i64 2147483647, .pointer (some ⟨p, 5, none⟩), .int .i64 0, .int .i64 1073741824, .pointer (some ⟨p, 6, none⟩), .int .i64 0, .int .i64 1073741824]

theorem ix0 (p : Nat) (W : World) : (Instr.index 236 (numsV p) (.int .i64 0)).run Tryz.prog W = .ok (.agg #[.pointer (some ⟨p, 0, none⟩), .int .i64 1, .int .i64 2147483647]) W := by kernel_rfl
theorem ix1 (p : Nat) (W : World) : (Instr.index 236 (numsV p) (.int .i64 1)).run Tryz.prog W = .ok (.agg #[.pointer (some ⟨p, 1, none⟩), .int .i64 1, .int .i64 2147483647]) W := by kernel_rfl
theorem ix2 (p : Nat) (W : World) : (Instr.index 236 (numsV p) (.int .i64 2)).run Tryz.prog W = .ok (.agg #[.pointer (some ⟨p, 2, none⟩), .int .i64 0, .int .i64 2147483647]) W := by kernel_rfl
theorem ix3 (p : Nat) (W : World) : (Instr.index 236 (numsV p) (.int .i64 3)).run Tryz.prog W = .ok (.agg #[.pointer (some ⟨p, 5, none⟩), .int .i64 0, .int .i64 1073741824]) W := by kernel_rfl
theorem ix4 (p : Nat) (W : World) : (Instr.index 236 (numsV p) (.int .i64 4)).run Tryz.prog W = .ok (.agg #[.pointer (some ⟨p, 6, none⟩), .int .i64 0, .int .i64 1073741824]) W := by kernel_rfl
set_option maxHeartbeats 4000000 in
set_option maxRecDepth 100000 in
theorem numbers_any (p : Nat) (w : World) : Calls Tryz.prog 145 #[.pointer (some ⟨p, 0, none⟩)] w fun e w' => e = .returned (numsV p) ∧ Kept (fun _ => False) w w' := by
  go_enter Tryz.func145, Tryz.ntmps145
  go_wp2
  go_region
  all_goals go_wp2
  refine bodyPost_ret (v := _) (by simp [results, Tryz.results145, go_sem]; try rfl) rfl ?_
  exact ⟨rfl, ((Kept.refl _ w).alloc _).drew⟩

def offJ : Nat → Nat | 0 => 0 | 1 => 1 | 2 => 2 | 3 => 5 | _ => 6
def leastJ : Nat → Int | 0 => 1 | 1 => 1 | _ => 0
def mostJ : Nat → Int | 0 => 2147483647 | 1 => 2147483647 | 2 => 2147483647 | _ => 1073741824
def numJ (m : Spn) : Nat → Int | 0 => m.tr | 1 => m.id | 2 => m.pa | 3 => m.st | _ => m.du
def okJ (m : Spn) (j : Nat) : Bool := decide (leastJ j ≤ numJ m j) && decide (numJ m j ≤ mostJ j)
def chkB (m : Spn) : Bool := okJ m 0 && okJ m 1 && okJ m 2 && okJ m 3 && okJ m 4 && nameB m.se && nameB m.ho && decide (m.no.size ≤ 24)
def errN : Bool → Int | true => 0 | false => 2
theorem chk_num {m : Spn} (h : chkB m = true) : (1 ≤ m.tr ∧ m.tr ≤ 2147483647) ∧ (1 ≤ m.id ∧ m.id ≤ 2147483647) ∧ (0 ≤ m.pa ∧ m.pa ≤ 2147483647) ∧ (0 ≤ m.st ∧ m.st ≤ 1073741824) ∧ (0 ≤ m.du ∧ m.du ≤ 1073741824) := by
  unfold chkB okJ leastJ mostJ numJ at h
  simp at h
  omega
theorem chk_not {m : Spn} {j : Nat} (hj : j < 5) (h : okJ m j = false) : chkB m = false := by
  unfold chkB
  obtain rfl | rfl | rfl | rfl | rfl : j = 0 ∨ j = 1 ∨ j = 2 ∨ j = 3 ∨ j = 4 := by omega
  all_goals simp [h]
theorem ixJ (p j : Nat) (hj : j < 5) (W : World) : (Instr.index 236 (numsV p) (.int .i64 (j : Int))).run Tryz.prog W = .ok (.agg #[.pointer (some ⟨p, offJ j, none⟩), .int .i64 (leastJ j), .int .i64 (mostJ j)]) W := by
  obtain rfl | rfl | rfl | rfl | rfl : j = 0 ∨ j = 1 ∨ j = 2 ∨ j = 3 ∨ j = 4 := by omega
  · exact ix0 p W
  · exact ix1 p W
  · exact ix2 p W
  · exact ix3 p W
  · exact ix4 p W
/-- A span lies at a block's beginning. -/
def SpanAt (w : World) (g : Nat) (m : Spn) : Prop := ∀ j u, m.cells[j]? = some u → w.cell? ⟨g, j, none⟩ = some u
theorem SpanAt.kept {S : Nat → Prop} {w w' : World} {g : Nat} {m : Spn} (h : SpanAt w g m) (hK : Kept S w w') (hS : ¬ S g) : SpanAt w' g m := fun j u hj => hK.cell (h j u hj) hS
theorem SpanAt.keptF {w w' : World} {g : Nat} {m : Spn} (h : SpanAt w g m) (hK : Kept (fun _ => False) w w') : SpanAt w' g m := h.kept hK (fun f => f)
theorem SpanAt.new {w : World} {m : Spn} : SpanAt (w.alloc (.cells #[.int .i64 m.tr, .int .i64 m.id, .int .i64 m.pa, .string m.se, .string m.ho, .int .i64 m.st, .int .i64 m.du, .string m.no] 111)) w.heap.size m := by
  intro j u hj
  unfold Spn.cells at hj
  rcases j with _ | _ | _ | _ | _ | _ | _ | _ | j <;> simp at hj <;> subst hj <;> simp
theorem SpanAt.num {w : World} {g : Nat} {m : Spn} (h : SpanAt w g m) (j : Nat) : w.cell? ⟨g, offJ j, none⟩ = some (.int .i64 (numJ m j)) := by
  match j with
  | 0 => exact h 0 _ rfl
  | 1 => exact h 1 _ rfl
  | 2 => exact h 2 _ rfl
  | 3 => exact h 5 _ rfl
  | j + 4 => exact h 6 _ rfl
set_option maxHeartbeats 8000000 in
set_option maxRecDepth 100000 in
theorem check_all (m : Spn) (hs : m.se.size ≤ 9223372036854775807) (hh : m.ho.size ≤ 9223372036854775807) (hn : m.no.size ≤ 9223372036854775807) (w : World) : Calls Tryz.prog 72 #[aggS m] w fun e w' => e = .returned (.int .i64 (errN (chkB m))) ∧ Kept (fun _ => False) w w' := by
  have N0 := Lib.hid (name_all m.se hs)
  have N1 := Lib.hid (name_all m.ho hh)
  unfold aggS
  go_enter Tryz.func72, Tryz.ntmps72
  go_wp2_with fail
  obtain ⟨W, hW⟩ : ∃ W, w.alloc (.cells #[.int .i64 m.tr, .int .i64 m.id, .int .i64 m.pa, .string m.se, .string m.ho, .int .i64 m.st, .int .i64 m.du, .string m.no] 111) = W := ⟨_, rfl⟩
  have K0 : Kept (fun _ => False) w W := by rw [← hW]; exact (Kept.refl _ w).alloc _
  have q0 : SpanAt W w.heap.size m := by rw [← hW]; exact SpanAt.new
  rw [hW]
  clear hW
  refine (numbers_any w.heap.size W).mono ?_
  rintro e w1 ⟨rfl, k1⟩
  have K1 := Lib.hid (K0.trans k1 (fun _ _ f => f) (fun _ _ f => f) : Kept (fun _ => False) w w1)
  have Q1 := Lib.hid (q0.keptF k1)
  clear k1 K0 q0
  obtain ⟨nv, hnv⟩ : ∃ nv, numsV w.heap.size = nv := ⟨_, rfl⟩
  have X := Lib.hid (ixJ w.heap.size)
  rw [hnv] at X ⊢
  clear hnv
  obtain ⟨p, hp⟩ : ∃ p, w.heap.size = p := ⟨_, rfl⟩
  rw [hp] at X Q1 ⊢
  clear hp
  go_wp2
  go_loopg [6] 5 (fun g t wr => ∃ i : Nat, i + g = 5 ∧ t = .int .i64 i ∧ Kept (fun _ => False) w1 wr ∧ ∀ j, j < i → okJ m j = true)
  case atStart => exact ⟨0, by omega, rfl, Kept.refl _ _, fun j hj => absurd hj (Nat.not_lt_zero j)⟩
  case round =>
    obtain ⟨i, hi, rfl, KW, hok⟩ := hrel
    have KF := Lib.hid KW
    have HI := Lib.hid hi
    have OK := Lib.hid hok
    have QW := Lib.hid (Q1.out.keptF KW)
    clear KW hi hok
    by_cases h5 : i < 5
    · have i1 : (i : Int) < 5 := by omega
      have x0 := X.out i h5
      obtain ⟨l, hl⟩ : ∃ l, leastJ i = l := ⟨_, rfl⟩
      obtain ⟨u, hu⟩ : ∃ u, mostJ i = u := ⟨_, rfl⟩
      obtain ⟨x, hx⟩ : ∃ x, numJ m i = x := ⟨_, rfl⟩
      obtain ⟨o, ho⟩ : ∃ o, offJ i = o := ⟨_, rfl⟩
      have qq := QW.out.num i
      rw [hx, ho] at qq
      rw [hl, hu, ho] at x0
      have HL := Lib.hid hl; have HU := Lib.hid hu; have HX := Lib.hid hx
      clear hl hu hx ho
      go_wp2
      obtain ⟨a0, a1, a2, _, _⟩ := (Kept.refl (fun _ => False) (wr.alloc (.cells #[.pointer (some ⟨p, o, none⟩), .int .i64 l, .int .i64 u] 235))).fresh3 (fun f => f)
      have KA := Lib.hid (KF.out.alloc (.cells #[.pointer (some ⟨p, o, none⟩), .int .i64 l, .int .i64 u] 235))
      have qq2 := ((Kept.refl (fun _ => False) wr).alloc (.cells #[.pointer (some ⟨p, o, none⟩), .int .i64 l, .int .i64 u] 235)).cell qq (fun f => f)
      obtain ⟨W2, hW2⟩ : ∃ W2, wr.alloc (.cells #[.pointer (some ⟨p, o, none⟩), .int .i64 l, .int .i64 u] 235) = W2 := ⟨_, rfl⟩
      rw [hW2] at a0 a1 a2 KA qq2 ⊢
      clear hW2 qq x0
      by_cases c1 : x < l
      · go_region
        all_goals go_wp2
        all_goals go_ret
        have e : chkB m = false := chk_not h5 (by unfold okJ; rw [HX.out, HL.out]; simp; omega)
        exact ⟨by rw [e]; rfl, K1.out.trans KA.out.drew (fun _ _ f => f) (fun _ _ f => f)⟩
      · by_cases c2 : u < x
        · refine wp_region_held_drew (S := (fun w' => w'.cell? ⟨wr.heap.size, 0, none⟩ = some (.pointer (some ⟨p, o, none⟩)) ∧ w'.cell? ⟨wr.heap.size, 1, none⟩ = some (.int .i64 l) ∧ w'.cell? ⟨wr.heap.size, 2, none⟩ = some (.int .i64 u) ∧ w'.cell? ⟨p, o, none⟩ = some (.int .i64 x))) (by kernel_rfl) ?_ (fun hHeld => ?_)
          · exact ⟨a0, a1, a2, qq2⟩
          refine wpAnyH_take (i := 0) (v := ?_) opAt0 (by kernel_rfl) (by kernel_rfl) (by kernel_rfl) (fun _ _ _ h => h) (Or.inl ⟨by rfl, ?_⟩) hHeld ?_
          case refine_2 => (intro w hSw; (try dsimp only at hSw); go_simp; all_goals (with_reducible rfl))
          (try simp only [Act.put]); (try simp only [List.setIfInBounds_toArray]); (try simp only [List.set_cons_succ]); (try simp only [List.set_cons_zero])
          refine wpAnyH_take (i := 1) (v := ?_) opAt1 (by kernel_rfl) (by kernel_rfl) (by kernel_rfl) (fun _ _ _ h => h) (Or.inl ⟨by rfl, ?_⟩) hHeld ?_
          case refine_2 => (intro w hSw; (try dsimp only at hSw); go_simp; all_goals (with_reducible rfl))
          (try simp only [Act.put]); (try simp only [List.setIfInBounds_toArray]); (try simp only [List.set_cons_succ]); (try simp only [List.set_cons_zero])
          refine wpAnyH_take (i := 2) (v := ?_) opAt2 (by kernel_rfl) (by kernel_rfl) (by kernel_rfl) (fun _ _ _ h => h) (Or.inl ⟨by rfl, ?_⟩) hHeld ?_
          case refine_2 => (intro w hSw; (try dsimp only at hSw); go_simp; all_goals (with_reducible rfl))
          (try simp only [Act.put]); (try simp only [List.setIfInBounds_toArray]); (try simp only [List.set_cons_succ]); (try simp only [List.set_cons_zero])
          refine wpAnyH_take (i := 3) (v := ?_) opAt3 (by kernel_rfl) (by kernel_rfl) (by kernel_rfl) (fun _ _ _ h => h) (Or.inl ⟨by rfl, ?_⟩) hHeld ?_
          case refine_2 => (intro w hSw; (try dsimp only at hSw); go_simp; all_goals (with_reducible rfl))
          (try simp only [Act.put]); (try simp only [List.setIfInBounds_toArray]); (try simp only [List.set_cons_succ]); (try simp only [List.set_cons_zero])
          refine wpAnyH_take (i := 4) (v := ?_) opAt4 (by kernel_rfl) (by kernel_rfl) (by kernel_rfl) (fun _ _ _ h => h) (Or.inl ⟨by rfl, ?_⟩) hHeld ?_
          case refine_2 => (intro w hSw; (try dsimp only at hSw); go_simp; all_goals (with_reducible rfl))
          (try simp only [Act.put]); (try simp only [List.setIfInBounds_toArray]); (try simp only [List.set_cons_succ]); (try simp only [List.set_cons_zero])
          refine wpAnyH_take (i := 5) (v := ?_) opAt5 (by kernel_rfl) (by kernel_rfl) (by kernel_rfl) (fun _ _ _ h => h) (Or.inl ⟨by rfl, ?_⟩) hHeld ?_
          case refine_2 => (intro w hSw; (try dsimp only at hSw); go_simp; all_goals (with_reducible rfl))
          (try simp only [Act.put]); (try simp only [List.setIfInBounds_toArray]); (try simp only [List.set_cons_succ]); (try simp only [List.set_cons_zero])
          refine wpAnyH_take (i := 6) (v := ?_) opAt6 (by kernel_rfl) (by kernel_rfl) (by kernel_rfl) (fun _ _ _ h => h) (Or.inl ⟨by rfl, ?_⟩) hHeld ?_
          case refine_2 => (intro w hSw; (try dsimp only at hSw); go_simp; all_goals (with_reducible rfl))
          (try simp only [Act.put]); (try simp only [List.setIfInBounds_toArray]); (try simp only [List.set_cons_succ]); (try simp only [List.set_cons_zero])
          refine wpAnyH_take (i := 7) (v := ?_) opAt7 (by kernel_rfl) (by kernel_rfl) (by kernel_rfl) (fun _ _ _ h => h) (Or.inl ⟨by rfl, ?_⟩) hHeld ?_
          case refine_2 => (intro w hSw; (try dsimp only at hSw); go_simp; all_goals (with_reducible rfl))
          (try simp only [Act.put]); (try simp only [List.setIfInBounds_toArray]); (try simp only [List.set_cons_succ]); (try simp only [List.set_cons_zero])
          refine wpAnyH_take (i := 8) (v := ?_) opAt8 (by kernel_rfl) (by kernel_rfl) (by kernel_rfl) (fun _ _ _ h => h) (Or.inl ⟨by rfl, ?_⟩) hHeld ?_
          case refine_2 => (intro w hSw; (try dsimp only at hSw); go_simp; all_goals (with_reducible rfl))
          (try simp only [Act.put]); (try simp only [List.setIfInBounds_toArray]); (try simp only [List.set_cons_succ]); (try simp only [List.set_cons_zero])
          refine wpAnyH_take (i := 9) (v := ?_) opAt9 (by kernel_rfl) (by kernel_rfl) (by kernel_rfl) (fun _ _ _ h => h) (Or.inl ⟨by rfl, ?_⟩) hHeld ?_
          case refine_2 => (intro w hSw; (try dsimp only at hSw); go_simp; all_goals (with_reducible rfl))
          (try simp only [Act.put]); (try simp only [List.setIfInBounds_toArray]); (try simp only [List.set_cons_succ]); (try simp only [List.set_cons_zero])
          refine wpAnyH_take (i := 10) (v := ?_) opAt10 (by kernel_rfl) (by kernel_rfl) (by kernel_rfl) (fun _ _ _ h => h) (Or.inl ⟨by rfl, ?_⟩) hHeld ?_
          case refine_2 => (intro w hSw; (try dsimp only at hSw); go_simp; all_goals (with_reducible rfl))
          (try simp only [Act.put]); (try simp only [List.setIfInBounds_toArray]); (try simp only [List.set_cons_succ]); (try simp only [List.set_cons_zero])
          refine wpAnyH_take (i := 11) (v := ?_) opAt11 (by kernel_rfl) (by kernel_rfl) (by kernel_rfl) (fun _ _ _ h => h) (Or.inl ⟨by rfl, ?_⟩) hHeld ?_
          case refine_2 => (intro w hSw; (try dsimp only at hSw); go_simp; all_goals (with_reducible rfl))
          (try simp only [Act.put]); (try simp only [List.setIfInBounds_toArray]); (try simp only [List.set_cons_succ]); (try simp only [List.set_cons_zero])
          refine wpAnyH_take (i := 12) (v := ?_) opAt12 (by kernel_rfl) (by kernel_rfl) (by kernel_rfl) (fun _ _ _ h => h) (Or.inl ⟨by rfl, ?_⟩) hHeld ?_
          case refine_2 => (intro w hSw; (try dsimp only at hSw); go_simp; all_goals (with_reducible rfl))
          (try simp only [Act.put]); (try simp only [List.setIfInBounds_toArray]); (try simp only [List.set_cons_succ]); (try simp only [List.set_cons_zero])
          refine wpAnyH_take (i := 13) (v := ?_) opAt13 (by kernel_rfl) (by kernel_rfl) (by kernel_rfl) (fun _ _ _ h => h) (Or.inl ⟨by rfl, ?_⟩) hHeld ?_
          case refine_2 => (intro w hSw; (try dsimp only at hSw); go_simp; all_goals (with_reducible rfl))
          (try simp only [Act.put]); (try simp only [List.setIfInBounds_toArray]); (try simp only [List.set_cons_succ]); (try simp only [List.set_cons_zero])
          refine wpAnyH_take (i := 14) (v := ?_) opAt14 (by kernel_rfl) (by kernel_rfl) (by kernel_rfl) (fun _ _ _ h => h) (Or.inl ⟨by rfl, ?_⟩) hHeld ?_
          case refine_2 => (intro w hSw; (try dsimp only at hSw); go_simp; all_goals (with_reducible rfl))
          (try simp only [Act.put]); (try simp only [List.setIfInBounds_toArray]); (try simp only [List.set_cons_succ]); (try simp only [List.set_cons_zero])
          refine wpAnyH_take (i := 15) (v := ?_) opAt15 (by kernel_rfl) (by kernel_rfl) (by kernel_rfl) (fun _ _ _ h => h) (Or.inl ⟨by rfl, ?_⟩) hHeld ?_
          case refine_2 => (intro w hSw; (try dsimp only at hSw); go_simp; all_goals (with_reducible rfl))
          (try simp only [Act.put]); (try simp only [List.setIfInBounds_toArray]); (try simp only [List.set_cons_succ]); (try simp only [List.set_cons_zero])
          refine wpAnyH_done (by kernel_rfl) ?_ _
          go_wp2
          go_ret
          have e : chkB m = false := chk_not h5 (by unfold okJ; rw [HX.out, HU.out]; simp; omega)
          exact ⟨by rw [e]; rfl, K1.out.trans KA.out.drew (fun _ _ f => f) (fun _ _ f => f)⟩
        · refine wp_region_held_drew (S := (fun w' => w'.cell? ⟨wr.heap.size, 0, none⟩ = some (.pointer (some ⟨p, o, none⟩)) ∧ w'.cell? ⟨wr.heap.size, 1, none⟩ = some (.int .i64 l) ∧ w'.cell? ⟨wr.heap.size, 2, none⟩ = some (.int .i64 u) ∧ w'.cell? ⟨p, o, none⟩ = some (.int .i64 x))) (by kernel_rfl) ?_ (fun hHeld => ?_)
          · exact ⟨a0, a1, a2, qq2⟩
          refine wpAnyH_take (i := 0) (v := ?_) opAt0 (by kernel_rfl) (by kernel_rfl) (by kernel_rfl) (fun _ _ _ h => h) (Or.inl ⟨by rfl, ?_⟩) hHeld ?_
          case refine_2 => (intro w hSw; (try dsimp only at hSw); go_simp; all_goals (with_reducible rfl))
          (try simp only [Act.put]); (try simp only [List.setIfInBounds_toArray]); (try simp only [List.set_cons_succ]); (try simp only [List.set_cons_zero])
          refine wpAnyH_take (i := 1) (v := ?_) opAt1 (by kernel_rfl) (by kernel_rfl) (by kernel_rfl) (fun _ _ _ h => h) (Or.inl ⟨by rfl, ?_⟩) hHeld ?_
          case refine_2 => (intro w hSw; (try dsimp only at hSw); go_simp; all_goals (with_reducible rfl))
          (try simp only [Act.put]); (try simp only [List.setIfInBounds_toArray]); (try simp only [List.set_cons_succ]); (try simp only [List.set_cons_zero])
          refine wpAnyH_take (i := 2) (v := ?_) opAt2 (by kernel_rfl) (by kernel_rfl) (by kernel_rfl) (fun _ _ _ h => h) (Or.inl ⟨by rfl, ?_⟩) hHeld ?_
          case refine_2 => (intro w hSw; (try dsimp only at hSw); go_simp; all_goals (with_reducible rfl))
          (try simp only [Act.put]); (try simp only [List.setIfInBounds_toArray]); (try simp only [List.set_cons_succ]); (try simp only [List.set_cons_zero])
          refine wpAnyH_take (i := 3) (v := ?_) opAt3 (by kernel_rfl) (by kernel_rfl) (by kernel_rfl) (fun _ _ _ h => h) (Or.inl ⟨by rfl, ?_⟩) hHeld ?_
          case refine_2 => (intro w hSw; (try dsimp only at hSw); go_simp; all_goals (with_reducible rfl))
          (try simp only [Act.put]); (try simp only [List.setIfInBounds_toArray]); (try simp only [List.set_cons_succ]); (try simp only [List.set_cons_zero])
          refine wpAnyH_take (i := 4) (v := ?_) opAt4 (by kernel_rfl) (by kernel_rfl) (by kernel_rfl) (fun _ _ _ h => h) (Or.inl ⟨by rfl, ?_⟩) hHeld ?_
          case refine_2 => (intro w hSw; (try dsimp only at hSw); go_simp; all_goals (with_reducible rfl))
          (try simp only [Act.put]); (try simp only [List.setIfInBounds_toArray]); (try simp only [List.set_cons_succ]); (try simp only [List.set_cons_zero])
          refine wpAnyH_take (i := 5) (v := ?_) opAt5 (by kernel_rfl) (by kernel_rfl) (by kernel_rfl) (fun _ _ _ h => h) (Or.inl ⟨by rfl, ?_⟩) hHeld ?_
          case refine_2 => (intro w hSw; (try dsimp only at hSw); go_simp; all_goals (with_reducible rfl))
          (try simp only [Act.put]); (try simp only [List.setIfInBounds_toArray]); (try simp only [List.set_cons_succ]); (try simp only [List.set_cons_zero])
          refine wpAnyH_take (i := 6) (v := ?_) opAt6 (by kernel_rfl) (by kernel_rfl) (by kernel_rfl) (fun _ _ _ h => h) (Or.inl ⟨by rfl, ?_⟩) hHeld ?_
          case refine_2 => (intro w hSw; (try dsimp only at hSw); go_simp; all_goals (with_reducible rfl))
          (try simp only [Act.put]); (try simp only [List.setIfInBounds_toArray]); (try simp only [List.set_cons_succ]); (try simp only [List.set_cons_zero])
          refine wpAnyH_take (i := 7) (v := ?_) opAt7 (by kernel_rfl) (by kernel_rfl) (by kernel_rfl) (fun _ _ _ h => h) (Or.inl ⟨by rfl, ?_⟩) hHeld ?_
          case refine_2 => (intro w hSw; (try dsimp only at hSw); go_simp; all_goals (with_reducible rfl))
          (try simp only [Act.put]); (try simp only [List.setIfInBounds_toArray]); (try simp only [List.set_cons_succ]); (try simp only [List.set_cons_zero])
          refine wpAnyH_take (i := 8) (v := ?_) opAt8 (by kernel_rfl) (by kernel_rfl) (by kernel_rfl) (fun _ _ _ h => h) (Or.inl ⟨by rfl, ?_⟩) hHeld ?_
          case refine_2 => (intro w hSw; (try dsimp only at hSw); go_simp; all_goals (with_reducible rfl))
          (try simp only [Act.put]); (try simp only [List.setIfInBounds_toArray]); (try simp only [List.set_cons_succ]); (try simp only [List.set_cons_zero])
          refine wpAnyH_take (i := 9) (v := ?_) opAt9 (by kernel_rfl) (by kernel_rfl) (by kernel_rfl) (fun _ _ _ h => h) (Or.inl ⟨by rfl, ?_⟩) hHeld ?_
          case refine_2 => (intro w hSw; (try dsimp only at hSw); go_simp; all_goals (with_reducible rfl))
          (try simp only [Act.put]); (try simp only [List.setIfInBounds_toArray]); (try simp only [List.set_cons_succ]); (try simp only [List.set_cons_zero])
          refine wpAnyH_take (i := 10) (v := ?_) opAt10 (by kernel_rfl) (by kernel_rfl) (by kernel_rfl) (fun _ _ _ h => h) (Or.inl ⟨by rfl, ?_⟩) hHeld ?_
          case refine_2 => (intro w hSw; (try dsimp only at hSw); go_simp; all_goals (with_reducible rfl))
          (try simp only [Act.put]); (try simp only [List.setIfInBounds_toArray]); (try simp only [List.set_cons_succ]); (try simp only [List.set_cons_zero])
          refine wpAnyH_take (i := 11) (v := ?_) opAt11 (by kernel_rfl) (by kernel_rfl) (by kernel_rfl) (fun _ _ _ h => h) (Or.inl ⟨by rfl, ?_⟩) hHeld ?_
          case refine_2 => (intro w hSw; (try dsimp only at hSw); go_simp; all_goals (with_reducible rfl))
          (try simp only [Act.put]); (try simp only [List.setIfInBounds_toArray]); (try simp only [List.set_cons_succ]); (try simp only [List.set_cons_zero])
          refine wpAnyH_take (i := 12) (v := ?_) opAt12 (by kernel_rfl) (by kernel_rfl) (by kernel_rfl) (fun _ _ _ h => h) (Or.inl ⟨by rfl, ?_⟩) hHeld ?_
          case refine_2 => (intro w hSw; (try dsimp only at hSw); go_simp; all_goals (with_reducible rfl))
          (try simp only [Act.put]); (try simp only [List.setIfInBounds_toArray]); (try simp only [List.set_cons_succ]); (try simp only [List.set_cons_zero])
          refine wpAnyH_take (i := 13) (v := ?_) opAt13 (by kernel_rfl) (by kernel_rfl) (by kernel_rfl) (fun _ _ _ h => h) (Or.inl ⟨by rfl, ?_⟩) hHeld ?_
          case refine_2 => (intro w hSw; (try dsimp only at hSw); go_simp; all_goals (with_reducible rfl))
          (try simp only [Act.put]); (try simp only [List.setIfInBounds_toArray]); (try simp only [List.set_cons_succ]); (try simp only [List.set_cons_zero])
          refine wpAnyH_take (i := 14) (v := ?_) opAt14 (by kernel_rfl) (by kernel_rfl) (by kernel_rfl) (fun _ _ _ h => h) (Or.inl ⟨by rfl, ?_⟩) hHeld ?_
          case refine_2 => (intro w hSw; (try dsimp only at hSw); go_simp; all_goals (with_reducible rfl))
          (try simp only [Act.put]); (try simp only [List.setIfInBounds_toArray]); (try simp only [List.set_cons_succ]); (try simp only [List.set_cons_zero])
          refine wpAnyH_take (i := 15) (v := ?_) opAt15 (by kernel_rfl) (by kernel_rfl) (by kernel_rfl) (fun _ _ _ h => h) (Or.inl ⟨by rfl, ?_⟩) hHeld ?_
          case refine_2 => (intro w hSw; (try dsimp only at hSw); go_simp; all_goals (with_reducible rfl))
          (try simp only [Act.put]); (try simp only [List.setIfInBounds_toArray]); (try simp only [List.set_cons_succ]); (try simp only [List.set_cons_zero])
          refine wpAnyH_done (by kernel_rfl) ?_ _
          go_wp2
          go_roundg (5 - i - 1)
          case measure => have := HI.out; omega
          case rel =>
            refine ⟨i + 1, by omega, by go_num, KA.out.drew, fun j hj => ?_⟩
            rcases Nat.lt_or_ge j i with h | h
            · exact OK.out j h
            · obtain rfl : j = i := by omega
              unfold okJ; rw [HX.out, HL.out, HU.out]; simp; omega
    · have i1 : ¬ (i : Int) < 5 := by omega
      obtain ⟨b0, hb0⟩ : ∃ b, nameB m.se = b := ⟨_, rfl⟩
      obtain ⟨b1, hb1⟩ : ∃ b, nameB m.ho = b := ⟨_, rfl⟩
      have q3 := QW.out 3 _ rfl
      have q4 := QW.out 4 _ rfl
      have q7 := QW.out 7 _ rfl
      have E : chkB m = (b0 && b1 && decide (m.no.size ≤ 24)) := by
        unfold chkB
        have h := OK.out
        have hi := HI.out
        rw [h 0 (by omega), h 1 (by omega), h 2 (by omega), h 3 (by omega), h 4 (by omega), hb0, hb1]
        rfl
      have EE := Lib.hid E
      clear E
      rw [hb0] at N0
      rw [hb1] at N1
      clear hb0 hb1
      by_cases h24 : (24 : Int) < (m.no.size : Int)
      · have e24 : decide (m.no.size ≤ 24) = false := by simp; omega
        rw [e24] at EE
        go_wp2_with fail
        refine (N0.out _).mono ?_
        rintro e w2 ⟨rfl, k2⟩
        replace q4 := k2.cell q4 (fun f => f)
        replace q7 := k2.cell q7 (fun f => f)
        have K2 := Lib.hid (KF.out.trans k2 (fun _ _ f => f) (fun _ _ f => f) : Kept (fun _ => False) w1 w2)
        clear k2
        cases b0 with
        | false =>
          go_wp2
          go_ret
          exact ⟨by rw [EE.out]; rfl, K1.out.trans K2.out (fun _ _ f => f) (fun _ _ f => f)⟩
        | true =>
          go_wp2_with fail
          refine (N1.out _).mono ?_
          rintro e w3 ⟨rfl, k3⟩
          replace q7 := k3.cell q7 (fun f => f)
          have K3 := Lib.hid (K2.out.trans k3 (fun _ _ f => f) (fun _ _ f => f) : Kept (fun _ => False) w1 w3)
          clear k3
          cases b1 with
          | false =>
            go_wp2
            go_ret
            exact ⟨by rw [EE.out]; rfl, K1.out.trans K3.out (fun _ _ f => f) (fun _ _ f => f)⟩
          | true =>
            go_wp2
            go_ret
            exact ⟨by rw [EE.out]; rfl, K1.out.trans K3.out (fun _ _ f => f) (fun _ _ f => f)⟩
      · have e24 : decide (m.no.size ≤ 24) = true := by simp; omega
        rw [e24] at EE
        go_wp2_with fail
        refine (N0.out _).mono ?_
        rintro e w2 ⟨rfl, k2⟩
        replace q4 := k2.cell q4 (fun f => f)
        replace q7 := k2.cell q7 (fun f => f)
        have K2 := Lib.hid (KF.out.trans k2 (fun _ _ f => f) (fun _ _ f => f) : Kept (fun _ => False) w1 w2)
        clear k2
        cases b0 with
        | false =>
          go_wp2
          go_ret
          exact ⟨by rw [EE.out]; rfl, K1.out.trans K2.out (fun _ _ f => f) (fun _ _ f => f)⟩
        | true =>
          go_wp2_with fail
          refine (N1.out _).mono ?_
          rintro e w3 ⟨rfl, k3⟩
          replace q7 := k3.cell q7 (fun f => f)
          have K3 := Lib.hid (K2.out.trans k3 (fun _ _ f => f) (fun _ _ f => f) : Kept (fun _ => False) w1 w3)
          clear k3
          cases b1 with
          | false =>
            go_wp2
            go_ret
            exact ⟨by rw [EE.out]; rfl, K1.out.trans K3.out (fun _ _ f => f) (fun _ _ f => f)⟩
          | true =>
            go_wp2
            go_ret
            exact ⟨by rw [EE.out]; rfl, K1.out.trans K3.out (fun _ _ f => f) (fun _ _ f => f)⟩
end Go.Proofs.YthkcicilmhpfjaaGreatDoor

/- keys.Of and keys.Index, by their bytes. -/
namespace Go.Proofs.YthkcicilmhpfjaaGreatDoor
open Go.RowKit

set_option maxHeartbeats 1000000 in
set_option maxRecDepth 100000 in
theorem like_all (k tr id st : Int) (se ho : ByteArray) (w : World) : Calls Tryz.prog 308 #[.agg #[.int .u8 k, .int .i64 tr, .int .i64 id, .int .i64 st, .string se, .string ho]] w fun e w' => e = .returned (aggS ⟨tr, id, 0, se, ho, st, 0, .empty⟩) ∧ Kept (fun _ => False) w w' := by
  go_enter Tryz.func308, Tryz.ntmps308
  go_wp2
  refine bodyPost_ret (v := _) (by simp [results, Tryz.results308, go_sem]; try rfl) rfl ?_
  exact ⟨rfl, ((Kept.refl _ _).alloc _).alloc _⟩
theorem told_all (s : ByteArray) (ok : Bool) (w : World) : Calls Tryz.prog 352 #[.string s, .bool ok] w fun e w' => e = .returned (.tuple #[.string (match ok with | true => s | false => .empty), .int .i64 (errN ok)]) ∧ w' = w := by
  cases ok
  · go_enter Tryz.func352, Tryz.ntmps352
    go_wp2
    go_ret2
    exact ⟨rfl, rfl⟩
  · go_enter Tryz.func352, Tryz.ntmps352
    go_wp2
    go_ret2
    exact ⟨rfl, rfl⟩

def sS : ByteArray := ⟨#[115]⟩
def spS (tr id : Int) : Spn := ⟨tr, id, 0, sS, sS, 0, 0, .empty⟩
def ofB (tr id : Int) : Bool := decide (1 ≤ tr) && decide (tr ≤ 2147483647) && (decide (1 ≤ id) && decide (id ≤ 2147483647))
theorem nameS : nameB sS = true := by decide +kernel
theorem chk_spS (tr id : Int) : chkB (spS tr id) = ofB tr id := by
  unfold chkB okJ leastJ mostJ numJ spS ofB
  simp [nameS]
def keyF (tr id : Int) : ByteArray := sS ++ (bigF tr ++ bigF id)

set_option maxHeartbeats 2000000 in
set_option maxRecDepth 100000 in
theorem key_bad (tr id : Int) (w : World) (hB : ofB tr id = false) : Calls Tryz.prog 210 #[.agg #[.int .u8 115, .int .i64 tr, .int .i64 id, .int .i64 0, .string .empty, .string .empty]] w fun e w' => e = .returned (.tuple #[.string .empty, .bool false]) ∧ Kept (fun _ => False) w w' := by
  have tt : ∀ {a b c : World}, Kept (fun _ => False) a b → Kept (fun _ => False) b c → Kept (fun _ => False) a c := fun h k => h.trans k (fun _ _ h => h) (fun _ _ h => h)
  have C := Lib.hid (fun w => check_all (spS tr id) (by show 1 ≤ _; omega) (by show 1 ≤ _; omega) (by show 0 ≤ _; omega) w)
  rw [chk_spS, hB] at C
  have LK := Lib.hid (like_all 115 tr id 0 .empty .empty)
  unfold aggS spS at C
  unfold aggS at LK
  clear hB
  go_enter Tryz.func210, Tryz.ntmps210
  go_wp2_with fail
  refine (LK.out _).mono ?_
  rintro e w1 ⟨rfl, k1⟩
  have b0 := k1.cell (a := ⟨w.heap.size, 0, none⟩) (v := .int .u8 115) (by go_simp) (fun f => f)
  have b1 := k1.cell (a := ⟨w.heap.size, 1, none⟩) (v := .int .i64 tr) (by go_simp) (fun f => f)
  have b2 := k1.cell (a := ⟨w.heap.size, 2, none⟩) (v := .int .i64 id) (by go_simp) (fun f => f)
  have hnp : w.heap.size < w1.heap.size := by have := k1.size; simp at this; omega
  have K1 := Lib.hid (tt ((Kept.refl _ _).alloc _) k1)
  clear k1
  go_wp2
  have c0 : ∀ o, (w1.alloc o).cell? ⟨w.heap.size, 0, none⟩ = some (.int .u8 115) := fun o => ((Kept.refl (fun _ => False) w1).alloc o).cell b0 (fun f => f)
  go_region
  all_goals go_wp2_with fail
  refine (C.out _).mono ?_
  rintro e w2 ⟨rfl, k2⟩
  have K2 := Lib.hid (tt K1.out (tt ((Kept.refl _ _).alloc _).drew k2))
  go_wp2
  go_ret2
  exact ⟨rfl, K2.out⟩
set_option maxHeartbeats 2000000 in
set_option maxRecDepth 100000 in
theorem key_good (tr id : Int) (w : World) (ht : tr ≤ 9223372036854775807) (hi : id ≤ 9223372036854775807) (hB : ofB tr id = true) : Calls Tryz.prog 210 #[.agg #[.int .u8 115, .int .i64 tr, .int .i64 id, .int .i64 0, .string .empty, .string .empty]] w fun e w' => e = .returned (.tuple #[.string (keyF tr id), .bool true]) ∧ Kept (fun _ => False) w w' := by
  have z0 := bigF_size tr
  have z1 := bigF_size id
  unfold keyF
  have BG := Lib.hid (fun (w' : World) (g cap : Nat) => bigs2 (a := tr) (b := id) (g := g) (o := 0) (cap := cap) (w := w') ht hi)
  have zz : (bigF tr ++ bigF id).size ≤ 16 := by rw [ByteArray.size_append]; omega
  obtain ⟨BB, hBB⟩ : ∃ BB, bigF tr ++ bigF id = BB := ⟨_, rfl⟩
  rw [hBB] at BG zz ⊢
  clear hBB
  have tt : ∀ {a b c : World}, Kept (fun _ => False) a b → Kept (fun _ => False) b c → Kept (fun _ => False) a c := fun h k => h.trans k (fun _ _ h => h) (fun _ _ h => h)
  have C := Lib.hid (fun w => check_all (spS tr id) (by show 1 ≤ _; omega) (by show 1 ≤ _; omega) (by show 0 ≤ _; omega) w)
  rw [chk_spS, hB] at C
  have LK := Lib.hid (like_all 115 tr id 0 .empty .empty)
  unfold aggS spS at C
  unfold aggS at LK
  clear hB
  go_enter Tryz.func210, Tryz.ntmps210
  go_wp2_with fail
  refine (LK.out _).mono ?_
  rintro e w1 ⟨rfl, k1⟩
  have b0 := k1.cell (a := ⟨w.heap.size, 0, none⟩) (v := .int .u8 115) (by go_simp) (fun f => f)
  have b1 := k1.cell (a := ⟨w.heap.size, 1, none⟩) (v := .int .i64 tr) (by go_simp) (fun f => f)
  have b2 := k1.cell (a := ⟨w.heap.size, 2, none⟩) (v := .int .i64 id) (by go_simp) (fun f => f)
  have hnp : w.heap.size < w1.heap.size := by have := k1.size; simp at this; omega
  have K1 := Lib.hid (tt ((Kept.refl _ _).alloc _) k1)
  clear k1
  go_wp2
  have c0 : ∀ o, (w1.alloc o).cell? ⟨w.heap.size, 0, none⟩ = some (.int .u8 115) := fun o => ((Kept.refl (fun _ => False) w1).alloc o).cell b0 (fun f => f)
  go_region
  all_goals go_wp2_with fail
  refine (C.out _).mono ?_
  rintro e w2 ⟨rfl, k2⟩
  have K2 := Lib.hid (tt K1.out (tt ((Kept.refl _ _).alloc _).drew k2))
  have d0 := k2.cell (a := ⟨w.heap.size, 0, none⟩) (v := .int .u8 115) (c0 _) (fun f => f)
  have d1 := k2.cell (a := ⟨w.heap.size, 1, none⟩) (v := .int .i64 tr) (((Kept.refl (fun _ => False) w1).alloc _).cell b1 (fun f => f)) (fun f => f)
  have d2 := k2.cell (a := ⟨w.heap.size, 2, none⟩) (v := .int .i64 id) (((Kept.refl (fun _ => False) w1).alloc _).cell b2 (fun f => f)) (fun f => f)
  clear k2 c0 b0 b1 b2
  go_wp2
  go_region
  all_goals go_wp2_with (go_at_call 203; refine (BG.out _ _ _ (by simp) (by simp)).mono ?_; rintro e w3 ⟨rfl, k3⟩; have K3 := Lib.hid (tt K2.out (tt ((Kept.refl _ _).drew.alloc _) k3)); clear k3)
  go_ret2
  exact ⟨rfl, K3.out⟩

def keyR (tr id : Int) : ByteArray := match ofB tr id with | true => keyF tr id | false => .empty
set_option maxRecDepth 100000 in
theorem of_all (tr id : Int) (w : World) (ht : tr ≤ 9223372036854775807) (hi : id ≤ 9223372036854775807) : Calls Tryz.prog 245 #[.int .i64 tr, .int .i64 id] w fun e w' => e = .returned (.tuple #[.string (keyR tr id), .int .i64 (errN (ofB tr id))]) ∧ Kept (fun _ => False) w w' := by
  unfold keyR
  cases hB : ofB tr id with
  | true =>
    have K := Lib.hid (key_good tr id w ht hi hB)
    have T := Lib.hid (told_all (keyF tr id) true)
    clear hB
    go_enter Tryz.func245, Tryz.ntmps245
    go_wp2_with (first | (go_at_call 210; refine K.out.mono ?_; rintro e w1 ⟨rfl, k1⟩) | (go_at_call 352; refine (T.out _).mono ?_; rintro e w2 ⟨rfl, rfl⟩))
    go_ret2
    exact ⟨rfl, k1⟩
  | false =>
    have K := Lib.hid (key_bad tr id w hB)
    have T := Lib.hid (told_all .empty false)
    clear hB
    go_enter Tryz.func245, Tryz.ntmps245
    go_wp2_with (first | (go_at_call 210; refine K.out.mono ?_; rintro e w1 ⟨rfl, k1⟩) | (go_at_call 352; refine (T.out _).mono ?_; rintro e w2 ⟨rfl, rfl⟩))
    go_ret2
    exact ⟨rfl, k1⟩

def spX (m : Spn) : Spn := ⟨m.tr, m.id, 0, m.se, m.ho, m.st, 0, .empty⟩
theorem chk_spX {m : Spn} (h : chkB m = true) : chkB (spX m) = true := by
  unfold chkB okJ leastJ mostJ numJ at h ⊢
  unfold spX
  simp only [Bool.and_eq_true, decide_eq_true_eq] at h ⊢
  refine ⟨⟨⟨⟨⟨⟨⟨?_, ?_⟩, ?_⟩, ?_⟩, ?_⟩, ?_⟩, ?_⟩, ?_⟩
  · exact h.1.1.1.1.1.1.1
  · exact h.1.1.1.1.1.1.2
  · omega
  · exact h.1.1.1.1.2
  · omega
  · exact h.1.1.2
  · exact h.1.2
  · show 0 ≤ 24; omega
theorem chk_size {m : Spn} (h : chkB m = true) : m.se.size ≤ 12 ∧ m.ho.size ≤ 12 ∧ m.no.size ≤ 24 := by
  unfold chkB at h
  simp only [Bool.and_eq_true, decide_eq_true_eq] at h
  obtain ⟨⟨⟨⟨⟨⟨⟨h0, h1⟩, h2⟩, h3⟩, h4⟩, h5⟩, h6⟩, h7⟩ := h
  have nm : ∀ {s : ByteArray}, nameB s = true → s.size ≤ 12 := fun {s} h => by
    unfold nameB at h
    simp only [Bool.and_eq_true, decide_eq_true_eq] at h
    exact h.1.2
  exact ⟨nm h5, nm h6, h7⟩
theorem chk_of {m : Spn} (h : chkB m = true) : ofB m.tr m.id = true := by
  have g := chk_num h
  unfold ofB
  simp
  omega
def xS : ByteArray := ⟨#[120]⟩
def nS : ByteArray := ⟨#[0]⟩
def xkeyF (m : Spn) : ByteArray := xS ++ m.se ++ nS ++ m.ho ++ nS ++ (bigF m.st ++ bigF m.tr ++ bigF m.id)

set_option maxHeartbeats 2000000 in
set_option maxRecDepth 100000 in
theorem key_x (m : Spn) (w : World) (hB : chkB m = true) : Calls Tryz.prog 210 #[.agg #[.int .u8 120, .int .i64 m.tr, .int .i64 m.id, .int .i64 m.st, .string m.se, .string m.ho]] w fun e w' => e = .returned (.tuple #[.string (xkeyF m), .bool true]) ∧ Kept (fun _ => False) w w' := by
  have tt : ∀ {a b c : World}, Kept (fun _ => False) a b → Kept (fun _ => False) b c → Kept (fun _ => False) a c := fun h k => h.trans k (fun _ _ h => h) (fun _ _ h => h)
  have z0 := bigF_size m.st
  have z1 := bigF_size m.tr
  have z2 := bigF_size m.id
  have g := chk_num hB
  obtain ⟨y1, y2, _⟩ := chk_size hB
  unfold xkeyF
  have BG := Lib.hid (fun (w' : World) (g0 cap : Nat) => bigs3 (a := m.st) (b := m.tr) (c := m.id) (g := g0) (o := 0) (cap := cap) (w := w') (by omega) (by omega) (by omega))
  have zz : (bigF m.st ++ bigF m.tr ++ bigF m.id).size ≤ 24 := by simp only [ByteArray.size_append]; omega
  obtain ⟨BB, hBB⟩ : ∃ BB, bigF m.st ++ bigF m.tr ++ bigF m.id = BB := ⟨_, rfl⟩
  rw [hBB] at BG zz ⊢
  clear hBB z0 z1 z2
  have C := Lib.hid (fun w => check_all (spX m) (by show m.se.size ≤ _; omega) (by show m.ho.size ≤ _; omega) (by show 0 ≤ _; omega) w)
  rw [chk_spX hB] at C
  have LK := Lib.hid (like_all 120 m.tr m.id m.st m.se m.ho)
  unfold aggS spX at C
  unfold aggS at LK
  clear hB g
  go_enter Tryz.func210, Tryz.ntmps210
  go_wp2_with fail
  refine (LK.out _).mono ?_
  rintro e w1 ⟨rfl, k1⟩
  have b0 := k1.cell (a := ⟨w.heap.size, 0, none⟩) (v := .int .u8 120) (by go_simp) (fun f => f)
  have b1 := k1.cell (a := ⟨w.heap.size, 1, none⟩) (v := .int .i64 m.tr) (by go_simp) (fun f => f)
  have b2 := k1.cell (a := ⟨w.heap.size, 2, none⟩) (v := .int .i64 m.id) (by go_simp) (fun f => f)
  have b3 := k1.cell (a := ⟨w.heap.size, 3, none⟩) (v := .int .i64 m.st) (by go_simp) (fun f => f)
  have b4 := k1.cell (a := ⟨w.heap.size, 4, none⟩) (v := .string m.se) (by go_simp) (fun f => f)
  have b5 := k1.cell (a := ⟨w.heap.size, 5, none⟩) (v := .string m.ho) (by go_simp) (fun f => f)
  have K1 := Lib.hid (tt ((Kept.refl _ _).alloc _) k1)
  clear k1
  go_wp2
  have c0 : ∀ o, (w1.alloc o).cell? ⟨w.heap.size, 0, none⟩ = some (.int .u8 120) := fun o => ((Kept.refl (fun _ => False) w1).alloc o).cell b0 (fun f => f)
  go_region
  all_goals go_wp2_with fail
  refine (C.out _).mono ?_
  rintro e w2 ⟨rfl, k2⟩
  have K2 := Lib.hid (tt K1.out (tt ((Kept.refl _ _).alloc _).drew k2))
  have d0 := k2.cell (a := ⟨w.heap.size, 0, none⟩) (v := .int .u8 120) (c0 _) (fun f => f)
  have d1 := k2.cell (a := ⟨w.heap.size, 1, none⟩) (v := .int .i64 m.tr) (((Kept.refl (fun _ => False) w1).alloc _).cell b1 (fun f => f)) (fun f => f)
  have d2 := k2.cell (a := ⟨w.heap.size, 2, none⟩) (v := .int .i64 m.id) (((Kept.refl (fun _ => False) w1).alloc _).cell b2 (fun f => f)) (fun f => f)
  have d3 := k2.cell (a := ⟨w.heap.size, 3, none⟩) (v := .int .i64 m.st) (((Kept.refl (fun _ => False) w1).alloc _).cell b3 (fun f => f)) (fun f => f)
  have d4 := k2.cell (a := ⟨w.heap.size, 4, none⟩) (v := .string m.se) (((Kept.refl (fun _ => False) w1).alloc _).cell b4 (fun f => f)) (fun f => f)
  have d5 := k2.cell (a := ⟨w.heap.size, 5, none⟩) (v := .string m.ho) (((Kept.refl (fun _ => False) w1).alloc _).cell b5 (fun f => f)) (fun f => f)
  clear k2 c0 b0 b1 b2 b3 b4 b5
  go_wp2
  go_region
  all_goals go_wp2_with fail
  have s1 : ¬ 9223372036854775807 < 1 + m.se.size := by omega
  have s2 : ¬ 9223372036854775807 < 1 + m.se.size + 1 := by omega
  have s3 : ¬ 9223372036854775807 < 1 + m.se.size + 1 + m.ho.size := by omega
  have s4 : ¬ 9223372036854775807 < 1 + m.se.size + 1 + m.ho.size + 1 := by omega
  have s5 : ¬ 9223372036854775807 < 1 + m.se.size + 1 + m.ho.size + 1 + BB.size := by omega
  refine wp_region_held_drew (S := (fun w' => w'.cell? ⟨w.heap.size, 1, none⟩ = some (.int .i64 m.tr) ∧ w'.cell? ⟨w.heap.size, 2, none⟩ = some (.int .i64 m.id) ∧ w'.cell? ⟨w.heap.size, 3, none⟩ = some (.int .i64 m.st) ∧ w'.cell? ⟨w.heap.size, 4, none⟩ = some (.string m.se) ∧ w'.cell? ⟨w.heap.size, 5, none⟩ = some (.string m.ho))) (by kernel_rfl) ?_ (fun hHeld => ?_)
  · exact ⟨d1, d2, d3, d4, d5⟩
  refine wpAnyH_take (i := 0) (v := ?_) opAt0 (by kernel_rfl) (by kernel_rfl) (by kernel_rfl) (fun _ _ _ h => h) (Or.inl ⟨by rfl, ?_⟩) hHeld ?_
  case refine_2 => (intro w hSw; (try dsimp only at hSw); go_simp; all_goals (with_reducible rfl))
  (try simp only [Act.put]); (try simp only [List.setIfInBounds_toArray]); (try simp only [List.set_cons_succ]); (try simp only [List.set_cons_zero])
  refine wpAnyH_take (i := 1) (v := ?_) opAt1 (by kernel_rfl) (by kernel_rfl) (by kernel_rfl) (fun _ _ _ h => h) (Or.inl ⟨by rfl, ?_⟩) hHeld ?_
  case refine_2 => (intro w hSw; (try dsimp only at hSw); go_simp; all_goals (with_reducible rfl))
  (try simp only [Act.put]); (try simp only [List.setIfInBounds_toArray]); (try simp only [List.set_cons_succ]); (try simp only [List.set_cons_zero])
  refine wpAnyH_take (i := 2) (v := ?_) opAt2 (by kernel_rfl) (by kernel_rfl) (by kernel_rfl) (fun _ _ _ h => h) (Or.inl ⟨by rfl, ?_⟩) hHeld ?_
  case refine_2 => (intro w hSw; (try dsimp only at hSw); go_simp; all_goals (with_reducible rfl))
  (try simp only [Act.put]); (try simp only [List.setIfInBounds_toArray]); (try simp only [List.set_cons_succ]); (try simp only [List.set_cons_zero])
  refine wpAnyH_take (i := 3) (v := ?_) opAt3 (by kernel_rfl) (by kernel_rfl) (by kernel_rfl) (fun _ _ _ h => h) (Or.inl ⟨by rfl, ?_⟩) hHeld ?_
  case refine_2 => (intro w hSw; (try dsimp only at hSw); go_simp; all_goals (with_reducible rfl))
  (try simp only [Act.put]); (try simp only [List.setIfInBounds_toArray]); (try simp only [List.set_cons_succ]); (try simp only [List.set_cons_zero])
  refine wpAnyH_take (i := 4) (v := ?_) opAt4 (by kernel_rfl) (by kernel_rfl) (by kernel_rfl) (fun _ _ _ h => h) (Or.inl ⟨by rfl, ?_⟩) hHeld ?_
  case refine_2 => (intro w hSw; (try dsimp only at hSw); go_simp; all_goals (with_reducible rfl))
  (try simp only [Act.put]); (try simp only [List.setIfInBounds_toArray]); (try simp only [List.set_cons_succ]); (try simp only [List.set_cons_zero])
  refine wpAnyH_take (i := 5) (v := ?_) opAt5 (by kernel_rfl) (by kernel_rfl) (by kernel_rfl) (fun _ _ _ h => h) (Or.inl ⟨by rfl, ?_⟩) hHeld ?_
  case refine_2 => (intro w hSw; (try dsimp only at hSw); go_simp; all_goals (with_reducible rfl))
  (try simp only [Act.put]); (try simp only [List.setIfInBounds_toArray]); (try simp only [List.set_cons_succ]); (try simp only [List.set_cons_zero])
  refine wpAnyH_take (i := 6) (v := ?_) opAt6 (by kernel_rfl) (by kernel_rfl) (by kernel_rfl) (fun _ _ _ h => h) (Or.inl ⟨by rfl, ?_⟩) hHeld ?_
  case refine_2 => (intro w hSw; (try dsimp only at hSw); go_simp; all_goals (with_reducible rfl))
  (try simp only [Act.put]); (try simp only [List.setIfInBounds_toArray]); (try simp only [List.set_cons_succ]); (try simp only [List.set_cons_zero])
  refine wpAnyH_take (i := 7) (v := ?_) opAt7 (by kernel_rfl) (by kernel_rfl) (by kernel_rfl) (fun _ _ _ h => h) (Or.inl ⟨by rfl, ?_⟩) hHeld ?_
  case refine_2 => (intro w hSw; (try dsimp only at hSw); go_simp; all_goals (with_reducible rfl))
  (try simp only [Act.put]); (try simp only [List.setIfInBounds_toArray]); (try simp only [List.set_cons_succ]); (try simp only [List.set_cons_zero])
  refine wpAnyH_take (i := 8) (v := ?_) opAt8 (by kernel_rfl) (by kernel_rfl) (by kernel_rfl) (fun _ _ _ h => h) (Or.inl ⟨by rfl, ?_⟩) hHeld ?_
  case refine_2 => (intro w hSw; (try dsimp only at hSw); go_simp; all_goals (with_reducible rfl))
  (try simp only [Act.put]); (try simp only [List.setIfInBounds_toArray]); (try simp only [List.set_cons_succ]); (try simp only [List.set_cons_zero])
  refine wpAnyH_take (i := 9) (v := ?_) opAt9 (by kernel_rfl) (by kernel_rfl) (by kernel_rfl) (fun _ _ _ h => h) (Or.inl ⟨by rfl, ?_⟩) hHeld ?_
  case refine_2 => (intro w hSw; (try dsimp only at hSw); go_simp; all_goals (with_reducible rfl))
  (try simp only [Act.put]); (try simp only [List.setIfInBounds_toArray]); (try simp only [List.set_cons_succ]); (try simp only [List.set_cons_zero])
  refine wpAnyH_take (i := 10) (v := ?_) opAt10 (by kernel_rfl) (by kernel_rfl) (by kernel_rfl) (fun _ _ _ h => h) (Or.inl ⟨by rfl, ?_⟩) hHeld ?_
  case refine_2 => (intro w hSw; (try dsimp only at hSw); go_simp; all_goals (with_reducible rfl))
  (try simp only [Act.put]); (try simp only [List.setIfInBounds_toArray]); (try simp only [List.set_cons_succ]); (try simp only [List.set_cons_zero])
  refine wpAnyH_take (i := 11) (v := ?_) opAt11 (by kernel_rfl) (by kernel_rfl) (by kernel_rfl) (fun _ _ _ h => h) (Or.inl ⟨by rfl, ?_⟩) hHeld ?_
  case refine_2 => (intro w hSw; (try dsimp only at hSw); go_simp; all_goals (with_reducible rfl))
  (try simp only [Act.put]); (try simp only [List.setIfInBounds_toArray]); (try simp only [List.set_cons_succ]); (try simp only [List.set_cons_zero])
  refine wpAnyH_take (i := 12) (v := ?_) opAt12 (by kernel_rfl) (by kernel_rfl) (by kernel_rfl) (fun _ _ _ h => h) (Or.inl ⟨by rfl, ?_⟩) hHeld ?_
  case refine_2 => (intro w hSw; (try dsimp only at hSw); go_simp; all_goals (with_reducible rfl))
  (try simp only [Act.put]); (try simp only [List.setIfInBounds_toArray]); (try simp only [List.set_cons_succ]); (try simp only [List.set_cons_zero])
  refine wpAnyH_take (i := 13) (v := ?_) opAt13 (by kernel_rfl) (by kernel_rfl) (by kernel_rfl) (fun _ _ _ h => h) (Or.inl ⟨by rfl, ?_⟩) hHeld ?_
  case refine_2 => (intro w hSw; (try dsimp only at hSw); go_simp; all_goals (with_reducible rfl))
  (try simp only [Act.put]); (try simp only [List.setIfInBounds_toArray]); (try simp only [List.set_cons_succ]); (try simp only [List.set_cons_zero])
  refine wpAnyH_ready (rs := [14]) (by kernel_rfl) (by simp) ?_
  refine AllReadyH.cons opAt14 (fun K hK => ?_) AllReadyH.nil
  go_simp
  skip
  refine hK.out _ _ ?_ (fun hHeld => ?_)
  · exact ⟨((Kept.refl (fun _ => False) _).alloc _).cell hHeld.1 (fun f => f), ((Kept.refl (fun _ => False) _).alloc _).cell hHeld.2.1 (fun f => f), ((Kept.refl (fun _ => False) _).alloc _).cell hHeld.2.2.1 (fun f => f), ((Kept.refl (fun _ => False) _).alloc _).cell hHeld.2.2.2.1 (fun f => f), ((Kept.refl (fun _ => False) _).alloc _).cell hHeld.2.2.2.2 (fun f => f)⟩
  clear hK K
  (try simp only [Act.put]); (try simp only [List.setIfInBounds_toArray]); (try simp only [List.set_cons_succ]); (try simp only [List.set_cons_zero])
  refine wpAnyH_ready (rs := [15]) (by kernel_rfl) (by simp) ?_
  refine AllReadyH.cons opAt15 (fun K hK => ?_) AllReadyH.nil
  go_simp
  go_at_call 203; refine (BG.out _ _ _ (by simp) (by simp) (by simp)).mono ?_; rintro e w3 ⟨rfl, k3⟩; have K3 := Lib.hid (tt K2.out (tt ((Kept.refl _ _).alloc _).drew.drew k3)); dsimp only
  refine hK.out _ _ ?_ (fun hHeld => ?_)
  · exact ⟨k3.cell hHeld.1 (fun f => f), k3.cell hHeld.2.1 (fun f => f), k3.cell hHeld.2.2.1 (fun f => f), k3.cell hHeld.2.2.2.1 (fun f => f), k3.cell hHeld.2.2.2.2 (fun f => f)⟩
  clear hK K
  (try simp only [Act.put]); (try simp only [List.setIfInBounds_toArray]); (try simp only [List.set_cons_succ]); (try simp only [List.set_cons_zero])
  refine wpAnyH_take (i := 16) (v := ?_) opAt16 (by kernel_rfl) (by kernel_rfl) (by kernel_rfl) (fun _ _ _ h => h) (Or.inl ⟨by rfl, ?_⟩) hHeld ?_
  case refine_2 => (intro w hSw; (try dsimp only at hSw); go_simp; all_goals (with_reducible rfl))
  (try simp only [Act.put]); (try simp only [List.setIfInBounds_toArray]); (try simp only [List.set_cons_succ]); (try simp only [List.set_cons_zero])
  refine wpAnyH_take (i := 17) (v := ?_) opAt17 (by kernel_rfl) (by kernel_rfl) (by kernel_rfl) (fun _ _ _ h => h) (Or.inl ⟨by rfl, ?_⟩) hHeld ?_
  case refine_2 => (intro w hSw; (try dsimp only at hSw); go_simp; all_goals (with_reducible rfl))
  (try simp only [Act.put]); (try simp only [List.setIfInBounds_toArray]); (try simp only [List.set_cons_succ]); (try simp only [List.set_cons_zero])
  refine wpAnyH_take (i := 18) (v := ?_) opAt18 (by kernel_rfl) (by kernel_rfl) (by kernel_rfl) (fun _ _ _ h => h) (Or.inl ⟨by rfl, ?_⟩) hHeld ?_
  case refine_2 => (intro w hSw; (try dsimp only at hSw); go_simp; all_goals (with_reducible rfl))
  (try simp only [Act.put]); (try simp only [List.setIfInBounds_toArray]); (try simp only [List.set_cons_succ]); (try simp only [List.set_cons_zero])
  refine wpAnyH_done (by kernel_rfl) ?_ _
  go_wp2
  go_ret2
  exact ⟨rfl, K3.out⟩
end Go.Proofs.YthkcicilmhpfjaaGreatDoor

/-
  DERIVED: THE SHELF's CONTRACTS AT THIS DUMP, IN PLAIN WORDS (tools/lay-plain.mjs out of 'YthkcicilmhpfjaaGreatDoorShB0.lean', which tools/lay-shelf.mjs wrote): THE SAME DECLARATIONS UNDER THE SAME NAMES: 'import', 'namespace', 'open', 'def', 'theorem' AND NOTHING ELSE: no command of the shelf's: FOR A HAND-IN. Each laying: the table of numbers ('.._ren') and one theorem, a field a fact of the dump's own or the kernel's comparison; each contract: ONE APPLICATION.
-/
namespace Go.Proofs
open Go.Shelf
def Tryz.l129_ren : Go.Shelf.Ren := ⟨fun | 129 => 253 | n => n, fun | 53 => 362 | 3 => 3 | 4 => 4 | 46 => 313 | 5 => 5 | 9 => 9 | n => n, fun | n => n⟩
theorem Tryz.l129 : Go.Proofs.Lays.n129 Tryz.prog Tryz.l129_ren := {
  mixed := by kernel_rfl
  f129 := Tryz.func253.trans (congrArg some (by kernel_rfl))
  t3 := Tryz.underlying3
  a3 := Tryz.isAgg3
  z3 := Tryz.sizeOf3
  v3 := Tryz.zeroValue3
  t4 := Tryz.underlying4
  a4 := Tryz.isAgg4
  z4 := Tryz.sizeOf4
  v4 := Tryz.zeroValue4
  t5 := Tryz.underlying5
  a5 := Tryz.isAgg5
  z5 := Tryz.sizeOf5
  v5 := Tryz.zeroValue5
  t9 := Tryz.underlying9
  a9 := Tryz.isAgg9
  z9 := Tryz.sizeOf9
  v9 := Tryz.zeroValue9
  t46 := Tryz.underlying313
  a46 := Tryz.isAgg313
  z46 := Tryz.sizeOf313
  v46 := Tryz.zeroValue313
  t53 := Tryz.underlying362
  a53 := Tryz.isAgg362
  z53 := Tryz.sizeOf362
  v53 := Tryz.zeroValue362 }
end Go.Proofs

/- ints.Put of any number, by its bytes. -/
namespace Go.Proofs.YthkcicilmhpfjaaGreatDoor
open Go.RowKit Go.Shelf Go.Lib

/-- A number's digits to the base 128, so many, each but the last one marked. -/
def putL : Nat → Int → List Int
  | 0, _ => []
  | 1, n => [n % 128]
  | m + 2, n => (n / 128 ^ (m + 1) % 128 + 128) :: putL (m + 1) n
def putM (n : Int) : Nat := max 1 ((Lib.bitLen n.toNat + 7 - 1) / 7)
def putF (n : Int) : ByteArray := if n < 0 then .empty else strOfNums (putL (putM n) n)

theorem len64 (x : Int) (w : World) (h0 : 0 ≤ x) (h1 : x ≤ 18446744073709551615) :
    Calls Tryz.prog 253 #[.int .u64 x] w fun e w' => e = .returned (.int .i64 (Lib.bitLen x.toNat)) ∧ w' = w := Any.bits_Len64 Tryz.l129 x w h0 h1

theorem or_fin : ∀ x : Fin 256, bits .or .u8 (x.val : Int) 128 = (x.val : Int) % 128 + 128 := by decide +kernel
theorem an_fin : ∀ x : Fin 128, bits .andNot .u8 ((x.val : Int) + 128) 128 = (x.val : Int) := by decide +kernel
theorem or128 (x : Int) : bits .or .u8 (x % 256) 128 = x % 128 + 128 := by
  have h := or_fin ⟨(x % 256).toNat, by omega⟩
  have e : (((x % 256).toNat : Nat) : Int) = x % 256 := by omega
  simp only [e] at h
  rw [h]; omega
theorem an128 (x : Int) : bits .andNot .u8 (x % 128 + 128) 128 = x % 128 := by
  have h := an_fin ⟨(x % 128).toNat, by omega⟩
  have e : (((x % 128).toNat : Nat) : Int) = x % 128 := by omega
  simp only [e] at h
  exact h
theorem conv_bytes (w : World) (l : List Int) :
    (convert 256 9 (.slice (some ⟨w.heap.size, 0, none⟩) l.length l.length)).run Tryz.prog (w.alloc (.cells (l.map (Value.int .u8)).toArray 5)) = .ok (.string (strOfNums l)) (w.alloc (.cells (l.map (Value.int .u8)).toArray 5)) :=
  run_convert_bytes_arg _ 256 5 Tryz.underlying256 Tryz.underlying5 _ 0 l.length l.length l rfl (fun i hi => by
    rw [Nat.zero_add, World.cell?_alloc_at _ _ _ _ rfl]
    simp [hi]) 9 Tryz.underlying9

set_option maxHeartbeats 1000000 in
set_option maxRecDepth 100000 in
theorem put_1 (n : Int) (w : World) (h0 : 0 ≤ n) (h1 : n ≤ 9223372036854775807) (L : Nat) (hL : Lib.bitLen n.toNat = L) (h63 : (L : Int) ≤ 63) (hm : max 1 (((L : Int) + 7 - 1) / 7) = 1) : Calls Tryz.prog 161 #[.int .i64 n] w fun e w' => e = .returned (.string (strOfNums (putL 1 n))) ∧ Kept (fun _ => False) w w' := by
  have C := Lib.hid (len64 n w h0 (by omega))
  rw [hL] at C
  clear hL
  have e1 : ¬ n < 0 := by omega
  have hp : (0 : Int) ≤ (L : Int) := by omega
  have hmk : ∀ w, (Instr.makeSlice 256 (.int .i64 1) (.int .i64 1)).run Tryz.prog w = .ok (.slice (some ⟨w.heap.size, 0, none⟩) 1 1) (w.alloc (.cells #[.int .u8 0] 5)) := fun _ => by kernel_rfl
  go_enter Tryz.func161, Tryz.ntmps161
  go_wp2_with (go_at_call 253; refine C.out.mono ?_; rintro e w4 ⟨rfl, rfl⟩)
  refine wp_loop_rounds 2 ?_
  rw [rounds_succ]; go_wp2
  rw [rounds_succ]; go_wp2
  simp only [or128, an128]
  have cv := conv_bytes w4 (putL 1 n)
  simp only [putL, List.length, List.map, Nat.zero_add] at cv
  rw [cv]
  go_wp2
  go_ret
  exact ⟨rfl, (Kept.refl _ _).alloc _⟩

set_option maxHeartbeats 1000000 in
set_option maxRecDepth 100000 in
theorem put_2 (n : Int) (w : World) (h0 : 0 ≤ n) (h1 : n ≤ 9223372036854775807) (L : Nat) (hL : Lib.bitLen n.toNat = L) (h63 : (L : Int) ≤ 63) (hm : max 1 (((L : Int) + 7 - 1) / 7) = 2) : Calls Tryz.prog 161 #[.int .i64 n] w fun e w' => e = .returned (.string (strOfNums (putL 2 n))) ∧ Kept (fun _ => False) w w' := by
  have C := Lib.hid (len64 n w h0 (by omega))
  rw [hL] at C
  clear hL
  have e1 : ¬ n < 0 := by omega
  have hp : (0 : Int) ≤ (L : Int) := by omega
  have hmk : ∀ w, (Instr.makeSlice 256 (.int .i64 2) (.int .i64 2)).run Tryz.prog w = .ok (.slice (some ⟨w.heap.size, 0, none⟩) 2 2) (w.alloc (.cells #[.int .u8 0, .int .u8 0] 5)) := fun _ => by kernel_rfl
  go_enter Tryz.func161, Tryz.ntmps161
  go_wp2_with (go_at_call 253; refine C.out.mono ?_; rintro e w4 ⟨rfl, rfl⟩)
  refine wp_loop_rounds 3 ?_
  rw [rounds_succ]; go_wp2
  rw [rounds_succ]; go_wp2
  rw [rounds_succ]; go_wp2
  simp only [or128, an128]
  have cv := conv_bytes w4 (putL 2 n)
  simp only [putL, List.length, List.map, Nat.zero_add, Nat.reduceAdd, Int.reducePow] at cv
  rw [cv]
  go_wp2
  go_ret
  exact ⟨rfl, (Kept.refl _ _).alloc _⟩

set_option maxHeartbeats 1000000 in
set_option maxRecDepth 100000 in
theorem put_3 (n : Int) (w : World) (h0 : 0 ≤ n) (h1 : n ≤ 9223372036854775807) (L : Nat) (hL : Lib.bitLen n.toNat = L) (h63 : (L : Int) ≤ 63) (hm : max 1 (((L : Int) + 7 - 1) / 7) = 3) : Calls Tryz.prog 161 #[.int .i64 n] w fun e w' => e = .returned (.string (strOfNums (putL 3 n))) ∧ Kept (fun _ => False) w w' := by
  have C := Lib.hid (len64 n w h0 (by omega))
  rw [hL] at C
  clear hL
  have e1 : ¬ n < 0 := by omega
  have hp : (0 : Int) ≤ (L : Int) := by omega
  have hmk : ∀ w, (Instr.makeSlice 256 (.int .i64 3) (.int .i64 3)).run Tryz.prog w = .ok (.slice (some ⟨w.heap.size, 0, none⟩) 3 3) (w.alloc (.cells #[.int .u8 0, .int .u8 0, .int .u8 0] 5)) := fun _ => by kernel_rfl
  go_enter Tryz.func161, Tryz.ntmps161
  go_wp2_with (go_at_call 253; refine C.out.mono ?_; rintro e w4 ⟨rfl, rfl⟩)
  refine wp_loop_rounds 4 ?_
  rw [rounds_succ]; go_wp2
  rw [rounds_succ]; go_wp2
  rw [rounds_succ]; go_wp2
  rw [rounds_succ]; go_wp2
  simp only [or128, an128]
  have cv := conv_bytes w4 (putL 3 n)
  simp only [putL, List.length, List.map, Nat.zero_add, Nat.reduceAdd, Int.reducePow] at cv
  rw [cv]
  go_wp2
  go_ret
  exact ⟨rfl, (Kept.refl _ _).alloc _⟩

set_option maxHeartbeats 1000000 in
set_option maxRecDepth 100000 in
theorem put_4 (n : Int) (w : World) (h0 : 0 ≤ n) (h1 : n ≤ 9223372036854775807) (L : Nat) (hL : Lib.bitLen n.toNat = L) (h63 : (L : Int) ≤ 63) (hm : max 1 (((L : Int) + 7 - 1) / 7) = 4) : Calls Tryz.prog 161 #[.int .i64 n] w fun e w' => e = .returned (.string (strOfNums (putL 4 n))) ∧ Kept (fun _ => False) w w' := by
  have C := Lib.hid (len64 n w h0 (by omega))
  rw [hL] at C
  clear hL
  have e1 : ¬ n < 0 := by omega
  have hp : (0 : Int) ≤ (L : Int) := by omega
  have hmk : ∀ w, (Instr.makeSlice 256 (.int .i64 4) (.int .i64 4)).run Tryz.prog w = .ok (.slice (some ⟨w.heap.size, 0, none⟩) 4 4) (w.alloc (.cells #[.int .u8 0, .int .u8 0, .int .u8 0, .int .u8 0] 5)) := fun _ => by kernel_rfl
  go_enter Tryz.func161, Tryz.ntmps161
  go_wp2_with (go_at_call 253; refine C.out.mono ?_; rintro e w4 ⟨rfl, rfl⟩)
  refine wp_loop_rounds 5 ?_
  rw [rounds_succ]; go_wp2
  rw [rounds_succ]; go_wp2
  rw [rounds_succ]; go_wp2
  rw [rounds_succ]; go_wp2
  rw [rounds_succ]; go_wp2
  simp only [or128, an128]
  have cv := conv_bytes w4 (putL 4 n)
  simp only [putL, List.length, List.map, Nat.zero_add, Nat.reduceAdd, Int.reducePow] at cv
  rw [cv]
  go_wp2
  go_ret
  exact ⟨rfl, (Kept.refl _ _).alloc _⟩

set_option maxHeartbeats 1000000 in
set_option maxRecDepth 100000 in
theorem put_5 (n : Int) (w : World) (h0 : 0 ≤ n) (h1 : n ≤ 9223372036854775807) (L : Nat) (hL : Lib.bitLen n.toNat = L) (h63 : (L : Int) ≤ 63) (hm : max 1 (((L : Int) + 7 - 1) / 7) = 5) : Calls Tryz.prog 161 #[.int .i64 n] w fun e w' => e = .returned (.string (strOfNums (putL 5 n))) ∧ Kept (fun _ => False) w w' := by
  have C := Lib.hid (len64 n w h0 (by omega))
  rw [hL] at C
  clear hL
  have e1 : ¬ n < 0 := by omega
  have hp : (0 : Int) ≤ (L : Int) := by omega
  have hmk : ∀ w, (Instr.makeSlice 256 (.int .i64 5) (.int .i64 5)).run Tryz.prog w = .ok (.slice (some ⟨w.heap.size, 0, none⟩) 5 5) (w.alloc (.cells #[.int .u8 0, .int .u8 0, .int .u8 0, .int .u8 0, .int .u8 0] 5)) := fun _ => by kernel_rfl
  go_enter Tryz.func161, Tryz.ntmps161
  go_wp2_with (go_at_call 253; refine C.out.mono ?_; rintro e w4 ⟨rfl, rfl⟩)
  refine wp_loop_rounds 6 ?_
  rw [rounds_succ]; go_wp2
  rw [rounds_succ]; go_wp2
  rw [rounds_succ]; go_wp2
  rw [rounds_succ]; go_wp2
  rw [rounds_succ]; go_wp2
  rw [rounds_succ]; go_wp2
  simp only [or128, an128]
  have cv := conv_bytes w4 (putL 5 n)
  simp only [putL, List.length, List.map, Nat.zero_add, Nat.reduceAdd, Int.reducePow] at cv
  rw [cv]
  go_wp2
  go_ret
  exact ⟨rfl, (Kept.refl _ _).alloc _⟩

set_option maxHeartbeats 1000000 in
set_option maxRecDepth 100000 in
theorem put_6 (n : Int) (w : World) (h0 : 0 ≤ n) (h1 : n ≤ 9223372036854775807) (L : Nat) (hL : Lib.bitLen n.toNat = L) (h63 : (L : Int) ≤ 63) (hm : max 1 (((L : Int) + 7 - 1) / 7) = 6) : Calls Tryz.prog 161 #[.int .i64 n] w fun e w' => e = .returned (.string (strOfNums (putL 6 n))) ∧ Kept (fun _ => False) w w' := by
  have C := Lib.hid (len64 n w h0 (by omega))
  rw [hL] at C
  clear hL
  have e1 : ¬ n < 0 := by omega
  have hp : (0 : Int) ≤ (L : Int) := by omega
  have hmk : ∀ w, (Instr.makeSlice 256 (.int .i64 6) (.int .i64 6)).run Tryz.prog w = .ok (.slice (some ⟨w.heap.size, 0, none⟩) 6 6) (w.alloc (.cells #[.int .u8 0, .int .u8 0, .int .u8 0, .int .u8 0, .int .u8 0, .int .u8 0] 5)) := fun _ => by kernel_rfl
  go_enter Tryz.func161, Tryz.ntmps161
  go_wp2_with (go_at_call 253; refine C.out.mono ?_; rintro e w4 ⟨rfl, rfl⟩)
  refine wp_loop_rounds 7 ?_
  rw [rounds_succ]; go_wp2
  rw [rounds_succ]; go_wp2
  rw [rounds_succ]; go_wp2
  rw [rounds_succ]; go_wp2
  rw [rounds_succ]; go_wp2
  rw [rounds_succ]; go_wp2
  rw [rounds_succ]; go_wp2
  simp only [or128, an128]
  have cv := conv_bytes w4 (putL 6 n)
  simp only [putL, List.length, List.map, Nat.zero_add, Nat.reduceAdd, Int.reducePow] at cv
  rw [cv]
  go_wp2
  go_ret
  exact ⟨rfl, (Kept.refl _ _).alloc _⟩

set_option maxHeartbeats 1000000 in
set_option maxRecDepth 100000 in
theorem put_7 (n : Int) (w : World) (h0 : 0 ≤ n) (h1 : n ≤ 9223372036854775807) (L : Nat) (hL : Lib.bitLen n.toNat = L) (h63 : (L : Int) ≤ 63) (hm : max 1 (((L : Int) + 7 - 1) / 7) = 7) : Calls Tryz.prog 161 #[.int .i64 n] w fun e w' => e = .returned (.string (strOfNums (putL 7 n))) ∧ Kept (fun _ => False) w w' := by
  have C := Lib.hid (len64 n w h0 (by omega))
  rw [hL] at C
  clear hL
  have e1 : ¬ n < 0 := by omega
  have hp : (0 : Int) ≤ (L : Int) := by omega
  have hmk : ∀ w, (Instr.makeSlice 256 (.int .i64 7) (.int .i64 7)).run Tryz.prog w = .ok (.slice (some ⟨w.heap.size, 0, none⟩) 7 7) (w.alloc (.cells #[.int .u8 0, .int .u8 0, .int .u8 0, .int .u8 0, .int .u8 0, .int .u8 0, .int .u8 0] 5)) := fun _ => by kernel_rfl
  go_enter Tryz.func161, Tryz.ntmps161
  go_wp2_with (go_at_call 253; refine C.out.mono ?_; rintro e w4 ⟨rfl, rfl⟩)
  refine wp_loop_rounds 8 ?_
  rw [rounds_succ]; go_wp2
  rw [rounds_succ]; go_wp2
  rw [rounds_succ]; go_wp2
  rw [rounds_succ]; go_wp2
  rw [rounds_succ]; go_wp2
  rw [rounds_succ]; go_wp2
  rw [rounds_succ]; go_wp2
  rw [rounds_succ]; go_wp2
  simp only [or128, an128]
  have cv := conv_bytes w4 (putL 7 n)
  simp only [putL, List.length, List.map, Nat.zero_add, Nat.reduceAdd, Int.reducePow] at cv
  rw [cv]
  go_wp2
  go_ret
  exact ⟨rfl, (Kept.refl _ _).alloc _⟩

set_option maxHeartbeats 1000000 in
set_option maxRecDepth 100000 in
theorem put_8 (n : Int) (w : World) (h0 : 0 ≤ n) (h1 : n ≤ 9223372036854775807) (L : Nat) (hL : Lib.bitLen n.toNat = L) (h63 : (L : Int) ≤ 63) (hm : max 1 (((L : Int) + 7 - 1) / 7) = 8) : Calls Tryz.prog 161 #[.int .i64 n] w fun e w' => e = .returned (.string (strOfNums (putL 8 n))) ∧ Kept (fun _ => False) w w' := by
  have C := Lib.hid (len64 n w h0 (by omega))
  rw [hL] at C
  clear hL
  have e1 : ¬ n < 0 := by omega
  have hp : (0 : Int) ≤ (L : Int) := by omega
  have hmk : ∀ w, (Instr.makeSlice 256 (.int .i64 8) (.int .i64 8)).run Tryz.prog w = .ok (.slice (some ⟨w.heap.size, 0, none⟩) 8 8) (w.alloc (.cells #[.int .u8 0, .int .u8 0, .int .u8 0, .int .u8 0, .int .u8 0, .int .u8 0, .int .u8 0, .int .u8 0] 5)) := fun _ => by kernel_rfl
  go_enter Tryz.func161, Tryz.ntmps161
  go_wp2_with (go_at_call 253; refine C.out.mono ?_; rintro e w4 ⟨rfl, rfl⟩)
  refine wp_loop_rounds 9 ?_
  rw [rounds_succ]; go_wp2
  rw [rounds_succ]; go_wp2
  rw [rounds_succ]; go_wp2
  rw [rounds_succ]; go_wp2
  rw [rounds_succ]; go_wp2
  rw [rounds_succ]; go_wp2
  rw [rounds_succ]; go_wp2
  rw [rounds_succ]; go_wp2
  rw [rounds_succ]; go_wp2
  simp only [or128, an128]
  have cv := conv_bytes w4 (putL 8 n)
  simp only [putL, List.length, List.map, Nat.zero_add, Nat.reduceAdd, Int.reducePow] at cv
  rw [cv]
  go_wp2
  go_ret
  exact ⟨rfl, (Kept.refl _ _).alloc _⟩

set_option maxHeartbeats 1000000 in
set_option maxRecDepth 100000 in
theorem put_9 (n : Int) (w : World) (h0 : 0 ≤ n) (h1 : n ≤ 9223372036854775807) (L : Nat) (hL : Lib.bitLen n.toNat = L) (h63 : (L : Int) ≤ 63) (hm : max 1 (((L : Int) + 7 - 1) / 7) = 9) : Calls Tryz.prog 161 #[.int .i64 n] w fun e w' => e = .returned (.string (strOfNums (putL 9 n))) ∧ Kept (fun _ => False) w w' := by
  have C := Lib.hid (len64 n w h0 (by omega))
  rw [hL] at C
  clear hL
  have e1 : ¬ n < 0 := by omega
  have hp : (0 : Int) ≤ (L : Int) := by omega
  have hmk : ∀ w, (Instr.makeSlice 256 (.int .i64 9) (.int .i64 9)).run Tryz.prog w = .ok (.slice (some ⟨w.heap.size, 0, none⟩) 9 9) (w.alloc (.cells #[.int .u8 0, .int .u8 0, .int .u8 0, .int .u8 0, .int .u8 0, .int .u8 0, .int .u8 0, .int .u8 0, .int .u8 0] 5)) := fun _ => by kernel_rfl
  go_enter Tryz.func161, Tryz.ntmps161
  go_wp2_with (go_at_call 253; refine C.out.mono ?_; rintro e w4 ⟨rfl, rfl⟩)
  refine wp_loop_rounds 10 ?_
  rw [rounds_succ]; go_wp2
  rw [rounds_succ]; go_wp2
  rw [rounds_succ]; go_wp2
  rw [rounds_succ]; go_wp2
  rw [rounds_succ]; go_wp2
  rw [rounds_succ]; go_wp2
  rw [rounds_succ]; go_wp2
  rw [rounds_succ]; go_wp2
  rw [rounds_succ]; go_wp2
  rw [rounds_succ]; go_wp2
  have e9 : bits .or .u8 (n / 72057594037927936) 128 = n / 72057594037927936 % 128 + 128 := by
    have := or128 (n / 72057594037927936)
    rwa [show n / 72057594037927936 % 256 = n / 72057594037927936 by omega] at this
  simp only [or128, an128, e9]
  have cv := conv_bytes w4 (putL 9 n)
  simp only [putL, List.length, List.map, Nat.zero_add, Nat.reduceAdd, Int.reducePow] at cv
  rw [cv]
  go_wp2
  go_ret
  exact ⟨rfl, (Kept.refl _ _).alloc _⟩

theorem put_all (n : Int) (w : World) (h1 : n ≤ 9223372036854775807) : Calls Tryz.prog 161 #[.int .i64 n] w fun e w' => e = .returned (.string (putF n)) ∧ Kept (fun _ => False) w w' := by
  unfold putF
  by_cases h : n < 0
  · rw [if_pos h]
    go_enter Tryz.func161, Tryz.ntmps161
    go_wp2
    go_ret
    exact ⟨rfl, Kept.refl _ _⟩
  rw [if_neg h]
  have h0 : 0 ≤ n := by omega
  have hb : Lib.bitLen n.toNat ≤ 63 := Lib.bitLen_le _ 63 (by omega) (by omega)
  by_cases g1 : max 1 ((((Lib.bitLen n.toNat : Nat) : Int) + 7 - 1) / 7) = 1
  · have e : putM n = 1 := by unfold putM; omega
    rw [e]
    exact put_1 n w h0 h1 _ rfl (by omega) g1
  by_cases g2 : max 1 ((((Lib.bitLen n.toNat : Nat) : Int) + 7 - 1) / 7) = 2
  · have e : putM n = 2 := by unfold putM; omega
    rw [e]
    exact put_2 n w h0 h1 _ rfl (by omega) g2
  by_cases g3 : max 1 ((((Lib.bitLen n.toNat : Nat) : Int) + 7 - 1) / 7) = 3
  · have e : putM n = 3 := by unfold putM; omega
    rw [e]
    exact put_3 n w h0 h1 _ rfl (by omega) g3
  by_cases g4 : max 1 ((((Lib.bitLen n.toNat : Nat) : Int) + 7 - 1) / 7) = 4
  · have e : putM n = 4 := by unfold putM; omega
    rw [e]
    exact put_4 n w h0 h1 _ rfl (by omega) g4
  by_cases g5 : max 1 ((((Lib.bitLen n.toNat : Nat) : Int) + 7 - 1) / 7) = 5
  · have e : putM n = 5 := by unfold putM; omega
    rw [e]
    exact put_5 n w h0 h1 _ rfl (by omega) g5
  by_cases g6 : max 1 ((((Lib.bitLen n.toNat : Nat) : Int) + 7 - 1) / 7) = 6
  · have e : putM n = 6 := by unfold putM; omega
    rw [e]
    exact put_6 n w h0 h1 _ rfl (by omega) g6
  by_cases g7 : max 1 ((((Lib.bitLen n.toNat : Nat) : Int) + 7 - 1) / 7) = 7
  · have e : putM n = 7 := by unfold putM; omega
    rw [e]
    exact put_7 n w h0 h1 _ rfl (by omega) g7
  by_cases g8 : max 1 ((((Lib.bitLen n.toNat : Nat) : Int) + 7 - 1) / 7) = 8
  · have e : putM n = 8 := by unfold putM; omega
    rw [e]
    exact put_8 n w h0 h1 _ rfl (by omega) g8
  by_cases g9 : max 1 ((((Lib.bitLen n.toNat : Nat) : Int) + 7 - 1) / 7) = 9
  · have e : putM n = 9 := by unfold putM; omega
    rw [e]
    exact put_9 n w h0 h1 _ rfl (by omega) g9
  omega
end Go.Proofs.YthkcicilmhpfjaaGreatDoor

/-
  DERIVED: THE SHELF's CONTRACTS AT THIS DUMP, IN PLAIN WORDS (tools/lay-plain.mjs out of 'YthkcicilmhpfjaaGreatDoorShW0.lean', which tools/lay-shelf.mjs wrote): THE SAME DECLARATIONS UNDER THE SAME NAMES: 'import', 'namespace', 'open', 'def', 'theorem' AND NOTHING ELSE: no command of the shelf's: FOR A HAND-IN. Each laying: the table of numbers ('.._ren') and one theorem, a field a fact of the dump's own or the kernel's comparison; each contract: ONE APPLICATION.
-/
namespace Go.Proofs
open Go.Shelf
def Tryz.l169_ren : Go.Shelf.Ren := ⟨fun | 169 => 162 | n => n, fun | 70 => 255 | 9 => 9 | 0 => 0 | 72 => 258 | 37 => 256 | 127 => 363 | 3 => 3 | 5 => 5 | n => n, fun | n => n⟩
theorem Tryz.l169 : Go.Proofs.Lays.n169 Tryz.prog Tryz.l169_ren := {
  mixed := by kernel_rfl
  f169 := Tryz.func162.trans (congrArg some (by kernel_rfl))
  t0 := Tryz.underlying0
  a0 := Tryz.isAgg0
  z0 := Tryz.sizeOf0
  v0 := Tryz.zeroValue0
  t3 := Tryz.underlying3
  a3 := Tryz.isAgg3
  z3 := Tryz.sizeOf3
  v3 := Tryz.zeroValue3
  t9 := Tryz.underlying9
  a9 := Tryz.isAgg9
  z9 := Tryz.sizeOf9
  v9 := Tryz.zeroValue9
  t37 := Tryz.underlying256
  a37 := Tryz.isAgg256
  z37 := Tryz.sizeOf256
  v37 := Tryz.zeroValue256
  t70 := Tryz.underlying255
  a70 := Tryz.isAgg255
  z70 := Tryz.sizeOf255
  v70 := Tryz.zeroValue255
  t72 := Tryz.underlying258
  a72 := Tryz.isAgg258
  z72 := Tryz.sizeOf258
  v72 := Tryz.zeroValue258
  t127 := Tryz.underlying363
  a127 := Tryz.isAgg363
  z127 := Tryz.sizeOf363
  v127 := Tryz.zeroValue363 }
end Go.Proofs

/- strings.Builder: copyCheck, WriteString, String. -/
namespace Go.Proofs.YthkcicilmhpfjaaGreatDoor
open Go.RowKit Go.Lib

theorem bExtra : Builder.Extra Tryz.prog Tryz.l169_ren := {
  sizeBuilder := by kernel_rfl
  liesBuilder := by kernel_rfl
  t5 := Tryz.underlying5
  a5 := Tryz.isAgg5
  z5 := Tryz.sizeOf5
  v5 := Tryz.zeroValue5
  infoByte := by kernel_rfl
  cellsByte := by kernel_rfl
  sizeByte := by kernel_rfl
  neB5 := by decide }

theorem copy_all (B b : Nat) (bs : List Value) (w : World) (h : Lib.IsBuilder 258 5 B b bs w) :
    Calls Tryz.prog 252 #[.pointer (some ⟨b, 0, none⟩)] w fun e w' => e = .returned (.tuple #[]) ∧ Lib.BuilderAt 258 5 B b (.pointer (some ⟨b, 0, none⟩)) bs w' ∧ Below B w w' := by
  rcases h with h | h
  · refine (copy_fresh b 0 2 w h.cell0 h.shape (by decide) (by kernel_rfl) h.frozen0).mono ?_
    rintro e w' ⟨rfl, rfl⟩
    exact ⟨rfl, h.used _, (Below.refl B w).setCell (p := ⟨b, 0, none⟩) h.1 _⟩
  · refine (copy_used b 0 w h.cell0).mono ?_
    rintro e w' ⟨rfl, rfl⟩
    exact ⟨rfl, h, Below.refl B _⟩

set_option maxHeartbeats 2000000 in
set_option maxRecDepth 100000 in
theorem wri_all (B b : Nat) (bs : List Value) (s : ByteArray) (w : World) (h : Lib.IsBuilder 258 5 B b bs w) (hlen : bs.length + s.size ≤ 140737488355328) (hBw : B ≤ w.heap.size) :
    Calls Tryz.prog 159 #[.pointer (some ⟨b, 0, none⟩), .string s] w fun e w' => e = .returned (.tuple #[.int .i64 s.size, .nilIface]) ∧ (Lib.BuilderAt 258 5 B b (.pointer (some ⟨b, 0, none⟩)) (bs ++ Lib.strCells s) w' ∧ Below B w w') := by
  obtain ⟨i0, hi, hz0, hz1, hz2⟩ := info_parts bExtra.infoByte
  go_enter Tryz.func159, Tryz.ntmps159
  go_wp2_with (go_at_call 252; refine (copy_all B b bs _ h).mono ?_)
  rintro e w1 ⟨rfl, h1, hb1⟩
  obtain ⟨hB, v, hbk, hown, hne⟩ := h1
  have c0 : w1.cell? ⟨b, 0, none⟩ = some (.pointer (some ⟨b, 0, none⟩)) := by rw [Lib.cell_of_heap hbk]; rfl
  have c1 : w1.cell? ⟨b, 1, none⟩ = some v := by rw [Lib.cell_of_heap hbk]; rfl
  go_wp2_with (at_builtin; refine Lib.wpList_append_own_string _ rfl _ _ 256 9 rfl B 5 i0 Tryz.underlying256 Tryz.underlying9 hi hz0 hz1 hz2 _ _ _ rfl hown s rfl ?c3 ?c4 ?c5 ?_)
  case c3 => unfold maxLen; omega
  case c4 => omega
  case c5 => have := hb1.size; omega
  intro v' w2 hown' hgrow _
  have hlt : b < w1.heap.size := by
    rcases Nat.lt_or_ge b w1.heap.size with h' | h'
    · exact h'
    · simp [Array.getElem?_eq_none h'] at hbk
  have hb2 : w2.heap[b]? = some (.cells #[.pointer (some ⟨b, 0, none⟩), v] 258 (0, 0)) := by
    rw [hgrow.block b hlt (fun e => hne e.symm)]
    exact hbk
  have d0 : w2.cell? ⟨b, 0, none⟩ = some (.pointer (some ⟨b, 0, none⟩)) := by rw [Lib.cell_of_heap hb2]; rfl
  have d1 : w2.cell? ⟨b, 1, none⟩ = some v := by rw [Lib.cell_of_heap hb2]; rfl
  have f1 : w2.frozen? ⟨b, 1, none⟩ = false := Lib.frozen_of_heap hb2 1
  obtain ⟨ao, n', cap, rfl⟩ : ∃ ao n' cap, v' = .slice ao n' cap := by
    rcases hown'.2 with ⟨hv, _⟩ | ⟨g, cap, cur, hv, _⟩
    · exact ⟨_, _, _, hv⟩
    · exact ⟨_, _, _, hv⟩
  go_wp2
  go_ret2
  refine ⟨rfl, ?_, ?_⟩
  · exact Lib.BuilderAt.put (T := 258) (e := 5) hB hb2 (bs' := bs ++ Lib.strCells s) (by simpa [Lib.strCells_length] using hown') bExtra.neB5
  · exact (hb1.grown hgrow (by have := hb1.size; omega) (fun k hk => (hown.lt k hk).1)).setCell (p := ⟨b, 1, none⟩) hB _

theorem str_all (B b : Nat) (l : List UInt8) (w : World) (h : Lib.IsBuilder 258 5 B b (Lib.byteCells l) w) (hBw : B ≤ w.heap.size) :
    Calls Tryz.prog 162 #[.pointer (some ⟨b, 0, none⟩)] w fun e w' => e = .returned (.string ⟨l.toArray⟩) ∧ Below B w w' := Any.Builder_String_any Tryz.l169 bExtra B b l w h hBw
end Go.Proofs.YthkcicilmhpfjaaGreatDoor

/- spans.Encode of any span. -/
namespace Go.Proofs.YthkcicilmhpfjaaGreatDoor
open Go.RowKit Go.Lib

theorem putL_length : ∀ (m : Nat) (n : Int), (putL m n).length = m
  | 0, _ => rfl
  | 1, _ => rfl
  | m + 2, n => by simp [putL, putL_length (m + 1) n]
theorem putF_size (n : Int) : (putF n).size ≤ 10 := by
  unfold putF
  split
  · exact Nat.zero_le _
  · rw [strOfNums_size, putL_length]
    unfold putM
    have h : Lib.bitLenAux 64 n.toNat ≤ 64 := by
      have g : ∀ f x, Lib.bitLenAux f x ≤ f := by
        intro f
        induction f with
        | zero => intro x; exact Nat.le_refl _
        | succ f ih => intro x; unfold Lib.bitLenAux; split; omega; have := ih (x / 2); omega
      exact g 64 _
    unfold Lib.bitLen
    omega
/-- A text, with its length ahead. -/
def ptxt (t : ByteArray) : ByteArray := putF t.size ++ t
theorem ptxt_size (t : ByteArray) : (ptxt t).size ≤ t.size + 10 := by
  have := putF_size t.size
  unfold ptxt
  rw [ByteArray.size_append]
  omega
set_option maxRecDepth 100000 in
theorem puttext_all (t : ByteArray) (w : World) (h : t.size ≤ 4294967296) : Calls Tryz.prog 160 #[.string t] w fun e w' => e = .returned (.string (ptxt t)) ∧ Kept (fun _ => False) w w' := by
  have C := Lib.hid (put_all (t.size : Int) w (by omega))
  have z := putF_size t.size
  unfold ptxt
  go_enter Tryz.func160, Tryz.ntmps160
  go_wp2_with (go_at_call 161; refine C.out.mono ?_; rintro e w4 ⟨rfl, k4⟩)
  go_ret
  exact ⟨rfl, k4⟩

def textsV (p : Nat) : Value := .agg #[.pointer (some ⟨p, 3, none⟩), .pointer (some ⟨p, 4, none⟩), .pointer (some ⟨p, 7, none⟩)]
def offT : Nat → Nat | 0 => 3 | 1 => 4 | _ => 7
def textJ (m : Spn) : Nat → ByteArray | 0 => m.se | 1 => m.ho | _ => m.no
theorem ixT (p j : Nat) (hj : j < 3) (W : World) : (Instr.index 419 (textsV p) (.int .i64 (j : Int))).run Tryz.prog W = .ok (.pointer (some ⟨p, offT j, none⟩)) W := by
  obtain rfl | rfl | rfl : j = 0 ∨ j = 1 ∨ j = 2 := by omega
  all_goals kernel_rfl
theorem SpanAt.text {w : World} {g : Nat} {m : Spn} (h : SpanAt w g m) (j : Nat) : w.cell? ⟨g, offT j, none⟩ = some (.string (textJ m j)) := by
  match j with
  | 0 => exact h 3 _ rfl
  | 1 => exact h 4 _ rfl
  | j + 2 => exact h 7 _ rfl
set_option maxHeartbeats 4000000 in
set_option maxRecDepth 100000 in
theorem texts_any (p : Nat) (w : World) : Calls Tryz.prog 323 #[.pointer (some ⟨p, 0, none⟩)] w fun e w' => e = .returned (textsV p) ∧ Kept (fun _ => False) w w' := by
  go_enter Tryz.func323, Tryz.ntmps323
  go_wp2
  go_region
  all_goals go_wp2
  refine bodyPost_ret (v := _) (by simp [results, Tryz.results323, go_sem]; try rfl) rfl ?_
  exact ⟨rfl, ((Kept.refl _ w).alloc _).drew⟩

def accN (m : Spn) : Nat → List UInt8
  | 0 => []
  | i + 1 => accN m i ++ (putF (numJ m i)).data.toList
def accT (m : Spn) : Nat → List UInt8
  | 0 => accN m 5
  | i + 1 => accT m i ++ (ptxt (textJ m i)).data.toList
def encF (m : Spn) : ByteArray := ⟨(accT m 3).toArray⟩
theorem data_length (b : ByteArray) : b.data.toList.length = b.size := Array.length_toList
theorem accN_length (m : Spn) : ∀ i, (accN m i).length ≤ 10 * i
  | 0 => Nat.le_refl _
  | i + 1 => by
    have h := accN_length m i
    have z := putF_size (numJ m i)
    simp only [accN, List.length_append, data_length]
    omega
theorem accT_length (m : Spn) (h : ∀ j, (textJ m j).size ≤ 24) : ∀ i, (accT m i).length ≤ 50 + 34 * i
  | 0 => accN_length m 5
  | i + 1 => by
    have q := accT_length m h i
    have z := ptxt_size (textJ m i)
    have y := h i
    simp only [accT, List.length_append, data_length]
    omega

theorem kept_grown {w w' : World} (K : Kept (fun _ => False) w w') : w.grownBy w' none := ⟨K.os, K.tape, K.output, K.size, fun k hk _ => K.block k hk (fun h => h)⟩
theorem BuilderAt.keptF {T e : TypeId} {B b : Nat} {p : Value} {bs : List Value} {w w' : World} (h : Lib.BuilderAt T e B b p bs w) (K : Kept (fun _ => False) w w') : Lib.BuilderAt T e B b p bs w' := by
  have hl := Lib.BuilderAt.lt h
  obtain ⟨hB, v, hb, ho, hn⟩ := h
  refine ⟨hB, v, (K.block b hl (fun h => h)).trans hb, ho.kept (kept_grown K) ?_, hn⟩
  cases v.ownBlock with
  | none => exact .inl rfl
  | some k => exact .inr (fun h => by cases h)
theorem below_kept {B : Nat} {w w' : World} (h : Below B w w') : Kept (fun k => B ≤ k) w w' := ⟨h.os, h.tape, h.output, h.size, fun k _ hS => h.block k (Nat.lt_of_not_le hS)⟩
theorem IsBuilder.keptF {T e : TypeId} {B b : Nat} {bs : List Value} {w w' : World} (h : Lib.IsBuilder T e B b bs w) (K : Kept (fun _ => False) w w') : Lib.IsBuilder T e B b bs w' := h.elim (fun h => .inl (BuilderAt.keptF h K)) (fun h => .inr (BuilderAt.keptF h K))
end Go.Proofs.YthkcicilmhpfjaaGreatDoor

/- spans.Encode of any span. -/
namespace Go.Proofs.YthkcicilmhpfjaaGreatDoor
open Go.RowKit Go.Lib

set_option maxHeartbeats 4000000 in
set_option maxRecDepth 100000 in
theorem enc_bad (m : Spn) (hs : m.se.size ≤ 9223372036854775807) (hh : m.ho.size ≤ 9223372036854775807) (hn : m.no.size ≤ 9223372036854775807) (hB : chkB m = false) (w : World) :
    Calls Tryz.prog 219 #[aggS m] w fun e w' => e = .returned (.tuple #[.string .empty, .int .i64 2]) ∧ Kept (fun _ => False) w w' := by
  have C := Lib.hid (check_all m hs hh hn)
  rw [hB] at C
  unfold aggS at C ⊢
  go_enter Tryz.func219, Tryz.ntmps219
  go_wp2_with (go_at_call 72; refine (C.out _).mono ?_; rintro e w1 ⟨rfl, k1⟩)
  go_ret2
  exact ⟨rfl, ((Kept.refl _ w).alloc _).trans k1 (fun _ _ f => f) (fun _ _ f => f)⟩

set_option maxHeartbeats 8000000 in
set_option maxRecDepth 100000 in
theorem enc_good (m : Spn) (hs : m.se.size ≤ 12) (hh : m.ho.size ≤ 12) (hn : m.no.size ≤ 24) (hnum : ∀ j, numJ m j ≤ 9223372036854775807) (hB : chkB m = true) (w : World) :
    Calls Tryz.prog 219 #[aggS m] w fun e w' => e = .returned (.tuple #[.string (encF m), .int .i64 0]) ∧ Kept (fun _ => False) w w' := by
  have C := Lib.hid (check_all m (by omega) (by omega) (by omega))
  have ht : ∀ j, (textJ m j).size ≤ 24 := fun j => by
    match j with
    | 0 => show m.se.size ≤ 24; omega
    | 1 => show m.ho.size ≤ 24; omega
    | j + 2 => show m.no.size ≤ 24; omega
  have HN := Lib.hid (accN_length m)
  have HT := Lib.hid (accT_length m ht)
  have TJ := Lib.hid ht
  have NJ := Lib.hid hnum
  clear ht hnum
  rw [hB] at C
  unfold aggS at C ⊢
  go_enter Tryz.func219, Tryz.ntmps219
  go_wp2_with fail
  obtain ⟨W, hW⟩ : ∃ W, w.alloc (.cells #[.int .i64 m.tr, .int .i64 m.id, .int .i64 m.pa, .string m.se, .string m.ho, .int .i64 m.st, .int .i64 m.du, .string m.no] 111) = W := ⟨_, rfl⟩
  have K0 : Kept (fun _ => False) w W := by rw [← hW]; exact (Kept.refl _ w).alloc _
  have q0 : SpanAt W w.heap.size m := by rw [← hW]; exact SpanAt.new
  rw [hW]
  clear hW
  refine (C.out W).mono ?_
  rintro e w1 ⟨rfl, k1⟩
  have K1 := Lib.hid (K0.trans k1 (fun _ _ f => f) (fun _ _ f => f) : Kept (fun _ => False) w w1)
  have Q1 := Lib.hid (q0.keptF k1)
  clear k1 K0 q0 C
  obtain ⟨p, hp⟩ : ∃ p, w.heap.size = p := ⟨_, rfl⟩
  rw [hp] at Q1 ⊢
  have HP := Lib.hid hp
  clear hp
  go_wp2_with fail
  have LB : p < w1.heap.size := World.block_lt_of_cell? _ _ (Q1.out.num 0)
  have b0 := Lib.hid (Lib.fresh_isBuilder 258 5 w1)
  have L0 := Lib.hid ((Below.refl w1.heap.size w1).alloc' (Nat.le_refl _) (.cells #[.pointer none, .slice none 0 0] 258))
  have BB := Lib.hid (Nat.le_refl w1.heap.size)
  obtain ⟨W4, hW4⟩ : ∃ W4, w1.alloc (.cells #[.pointer none, .slice none 0 0] 258) = W4 := ⟨_, rfl⟩
  rw [hW4] at b0 L0 ⊢
  clear hW4
  obtain ⟨B, hBB⟩ : ∃ B, w1.heap.size = B := ⟨_, rfl⟩
  rw [hBB] at LB b0 L0 BB ⊢
  have BW := Lib.hid (Nat.le_of_eq hBB.symm)
  clear hBB
  refine (numbers_any p W4).mono ?_
  rintro e w5 ⟨rfl, k5⟩
  have L5 := Lib.hid (L0.out.step BW.out k5 (fun _ f => f.elim))
  have b5 := Lib.hid (IsBuilder.keptF b0.out k5)
  clear L0 b0 k5 BB
  obtain ⟨nv, hnv⟩ : ∃ nv, numsV p = nv := ⟨_, rfl⟩
  have X := Lib.hid (ixJ p)
  rw [hnv] at X ⊢
  clear hnv
  go_wp2
  go_loopg [16] 5 (fun g t wr => ∃ i : Nat, i + g = 5 ∧ t = .int .i64 i ∧ Below B w1 wr ∧ Lib.IsBuilder 258 5 B B (Lib.byteCells (accN m i)) wr)
  case atStart => exact ⟨0, by omega, rfl, L5.out, b5.out⟩
  case round =>
    obtain ⟨i, hi, rfl, hLW, hbW⟩ := hrel
    have LW := Lib.hid hLW
    have bW := Lib.hid hbW
    have HI := Lib.hid hi
    have QW := Lib.hid (Q1.out.kept (below_kept hLW) (by omega))
    clear hi hLW hbW
    by_cases h5 : i < 5
    · have i1 : (i : Int) < 5 := by omega
      have x0 := X.out i h5
      obtain ⟨l, hl⟩ : ∃ l, leastJ i = l := ⟨_, rfl⟩
      obtain ⟨u, hu⟩ : ∃ u, mostJ i = u := ⟨_, rfl⟩
      obtain ⟨o, ho⟩ : ∃ o, offJ i = o := ⟨_, rfl⟩
      have qq := QW.out.num i
      have qa : ∀ ob, (wr.alloc ob).cell? ⟨p, offJ i, none⟩ = some (.int .i64 (numJ m i)) := fun ob => ((Kept.refl (fun _ => False) wr).alloc ob).cell qq (fun f => f)
      rw [ho] at qq qa
      rw [hl, hu, ho] at x0
      clear hl hu ho
      go_wp2_with (first | (go_at_call 161; refine (put_all _ _ (NJ.out i)).mono ?_; rintro e w6 ⟨rfl, k6⟩; have L6 := Lib.hid ((LW.out.alloc' BW.out _).step BW.out k6 (fun _ f => f.elim)); have b6 := Lib.hid (IsBuilder.keptF (IsBuilder.keptF bW.out ((Kept.refl _ _).alloc _)) k6); clear k6) | (go_at_call 159; refine (wri_all B B _ _ _ b6.out (by rw [Lib.byteCells_length]; have := HN.out i; have := putF_size (numJ m i); omega) (Nat.le_trans BW.out L6.out.size)).mono ?_; rintro e w7 ⟨rfl, b7, l7⟩; have B7 := Lib.hid b7; have L7 := Lib.hid (L6.out.trans l7); clear b7 l7))
      go_roundg (5 - i - 1)
      case measure => have := HI.out; omega
      case rel => exact ⟨i + 1, by omega, by go_num, L7.out, .inr (by have := B7.out; rw [Lib.strCells_eq, ← Lib.byteCells_append] at this; exact this)⟩
    · have h5' : i = 5 := by have := HI.out; omega
      subst h5'
      go_wp2_with fail
      refine (texts_any p wr).mono ?_
      rintro e w8 ⟨rfl, k8⟩
      have L8 := Lib.hid (LW.out.step BW.out k8 (fun _ f => f.elim))
      have b8 := Lib.hid (IsBuilder.keptF bW.out k8)
      clear LW bW k8 QW HI h5
      obtain ⟨tv, htv⟩ : ∃ tv, textsV p = tv := ⟨_, rfl⟩
      have X2 := Lib.hid (ixT p)
      rw [htv] at X2 ⊢
      clear htv
      go_wp2
      go_loopg [27] 3 (fun g t wr => ∃ i : Nat, i + g = 3 ∧ t = .int .i64 i ∧ Below B w1 wr ∧ Lib.IsBuilder 258 5 B B (Lib.byteCells (accT m i)) wr)
      case atStart => exact ⟨0, by omega, rfl, L8.out, b8.out⟩
      case round =>
        obtain ⟨i, hi, rfl, hLW, hbW⟩ := hrel
        rename_i wv _
        have LW := Lib.hid hLW
        have bW := Lib.hid hbW
        have HI := Lib.hid hi
        have QW := Lib.hid (Q1.out.kept (below_kept hLW) (by omega))
        clear hi hLW hbW
        by_cases h3 : i < 3
        · have i1 : (i : Int) < 3 := by omega
          have x0 := X2.out i h3
          have qq := QW.out.text i
          obtain ⟨o, ho⟩ : ∃ o, offT i = o := ⟨_, rfl⟩
          obtain ⟨tx, htx⟩ : ∃ tx, textJ m i = tx := ⟨_, rfl⟩
          rw [ho, htx] at qq
          rw [ho] at x0
          have TX := Lib.hid htx
          have tz : tx.size ≤ 24 := by rw [← htx]; exact TJ.out i
          clear ho htx
          go_wp2_with (first | (go_at_call 160; refine (puttext_all _ _ (by omega)).mono ?_; rintro e w9 ⟨rfl, k9⟩; have L9 := Lib.hid (LW.out.step BW.out k9 (fun _ f => f.elim)); have b9 := Lib.hid (IsBuilder.keptF bW.out k9); clear k9) | (go_at_call 159; refine (wri_all B B _ _ _ b9.out (by rw [Lib.byteCells_length]; have := HT.out i; have := ptxt_size tx; omega) (Nat.le_trans BW.out L9.out.size)).mono ?_; rintro e w10 ⟨rfl, b10, l10⟩; have B10 := Lib.hid b10; have L10 := Lib.hid (L9.out.trans l10); clear b10 l10))
          go_roundg (3 - i - 1)
          case measure => have := HI.out; omega
          case rel => exact ⟨i + 1, by omega, by go_num, L10.out, .inr (by have := B10.out; rw [← TX.out, Lib.strCells_eq, ← Lib.byteCells_append] at this; exact this)⟩
        · have h3' : i = 3 := by have := HI.out; omega
          subst h3'
          go_wp2_with (go_at_call 162; refine (str_all B B _ _ bW.out (Nat.le_trans BW.out LW.out.size)).mono ?_; rintro e w11 ⟨rfl, l11⟩; have L11 := Lib.hid (LW.out.trans l11); clear l11)
          go_ret2
          refine ⟨rfl, K1.out.trans (below_kept L11.out) (fun _ _ f => f) (fun k hk f => by have := HP.out; omega)⟩

/-- What is told of a span: its bytes, if it may be. -/
def encR (m : Spn) : ByteArray := match chkB m with | true => encF m | false => .empty
theorem enc_all (m : Spn) (hs : m.se.size ≤ 9223372036854775807) (hh : m.ho.size ≤ 9223372036854775807) (hn : m.no.size ≤ 9223372036854775807) (w : World) :
    Calls Tryz.prog 219 #[aggS m] w fun e w' => e = .returned (.tuple #[.string (encR m), .int .i64 (errN (chkB m))]) ∧ Kept (fun _ => False) w w' := by
  unfold encR
  cases hB : chkB m with
  | false => exact enc_bad m hs hh hn hB w
  | true =>
    have h := hB
    unfold chkB at h
    simp only [Bool.and_eq_true, decide_eq_true_eq] at h
    obtain ⟨⟨⟨⟨⟨⟨⟨h0, h1⟩, h2⟩, h3⟩, h4⟩, h5⟩, h6⟩, h7⟩ := h
    have nm : ∀ {s : ByteArray}, nameB s = true → s.size ≤ 12 := fun {s} h => by
      unfold nameB at h
      simp only [Bool.and_eq_true, decide_eq_true_eq] at h
      exact h.1.2
    have g := chk_num hB
    refine enc_good m (nm h5) (nm h6) h7 (fun j => ?_) hB w
    match j with
    | 0 => show m.tr ≤ _; omega
    | 1 => show m.id ≤ _; omega
    | 2 => show m.pa ≤ _; omega
    | 3 => show m.st ≤ _; omega
    | j + 4 => show m.du ≤ _; omega
end Go.Proofs.YthkcicilmhpfjaaGreatDoor

/- keys.Index and rows.Cells of a span that may be. -/
namespace Go.Proofs.YthkcicilmhpfjaaGreatDoor
open Go.RowKit

set_option maxHeartbeats 2000000 in
set_option maxRecDepth 100000 in
theorem index_good (m : Spn) (w : World) (hB : chkB m = true) : Calls Tryz.prog 246 #[aggS m] w fun e w' => e = .returned (.tuple #[.string (xkeyF m), .int .i64 0]) ∧ Kept (fun _ => False) w w' := by
  have tt : ∀ {a b c : World}, Kept (fun _ => False) a b → Kept (fun _ => False) b c → Kept (fun _ => False) a c := fun h k => h.trans k (fun _ _ h => h) (fun _ _ h => h)
  obtain ⟨y1, y2, y3⟩ := chk_size hB
  have C := Lib.hid (fun w => check_all m (by omega) (by omega) (by omega) w)
  rw [hB] at C
  have KX := Lib.hid (fun w => key_x m w hB)
  obtain ⟨xk, hxk⟩ : ∃ xk, xkeyF m = xk := ⟨_, rfl⟩
  rw [hxk] at KX ⊢
  have T := Lib.hid (told_all xk true)
  clear hxk hB
  unfold aggS at C ⊢
  go_enter Tryz.func246, Tryz.ntmps246
  go_wp2_with fail
  refine (C.out _).mono ?_
  rintro e w1 ⟨rfl, k1⟩
  have d0 := k1.cell (a := ⟨w.heap.size, 0, none⟩) (v := .int .i64 m.tr) (by go_simp) (fun f => f)
  have d1 := k1.cell (a := ⟨w.heap.size, 1, none⟩) (v := .int .i64 m.id) (by go_simp) (fun f => f)
  have d3 := k1.cell (a := ⟨w.heap.size, 3, none⟩) (v := .string m.se) (by go_simp) (fun f => f)
  have d4 := k1.cell (a := ⟨w.heap.size, 4, none⟩) (v := .string m.ho) (by go_simp) (fun f => f)
  have d5 := k1.cell (a := ⟨w.heap.size, 5, none⟩) (v := .int .i64 m.st) (by go_simp) (fun f => f)
  have K1 := Lib.hid (tt ((Kept.refl _ _).alloc _) k1)
  clear k1
  go_wp2_with fail
  refine wp_region_held_drew (S := (fun w' => w'.cell? ⟨w.heap.size, 0, none⟩ = some (.int .i64 m.tr) ∧ w'.cell? ⟨w.heap.size, 1, none⟩ = some (.int .i64 m.id) ∧ w'.cell? ⟨w.heap.size, 5, none⟩ = some (.int .i64 m.st) ∧ w'.cell? ⟨w.heap.size, 3, none⟩ = some (.string m.se) ∧ w'.cell? ⟨w.heap.size, 4, none⟩ = some (.string m.ho))) (by kernel_rfl) ?_ (fun hHeld => ?_)
  · exact ⟨d0, d1, d5, d3, d4⟩
  refine wpAnyH_take (i := 0) (v := ?_) opAt0 (by kernel_rfl) (by kernel_rfl) (by kernel_rfl) (fun _ _ _ h => h) (Or.inl ⟨by rfl, ?_⟩) hHeld ?_
  case refine_2 => (intro w hSw; (try dsimp only at hSw); go_simp; all_goals (with_reducible rfl))
  (try simp only [Act.put]); (try simp only [List.setIfInBounds_toArray]); (try simp only [List.set_cons_succ]); (try simp only [List.set_cons_zero])
  refine wpAnyH_take (i := 1) (v := ?_) opAt1 (by kernel_rfl) (by kernel_rfl) (by kernel_rfl) (fun _ _ _ h => h) (Or.inl ⟨by rfl, ?_⟩) hHeld ?_
  case refine_2 => (intro w hSw; (try dsimp only at hSw); go_simp; all_goals (with_reducible rfl))
  (try simp only [Act.put]); (try simp only [List.setIfInBounds_toArray]); (try simp only [List.set_cons_succ]); (try simp only [List.set_cons_zero])
  refine wpAnyH_take (i := 2) (v := ?_) opAt2 (by kernel_rfl) (by kernel_rfl) (by kernel_rfl) (fun _ _ _ h => h) (Or.inl ⟨by rfl, ?_⟩) hHeld ?_
  case refine_2 => (intro w hSw; (try dsimp only at hSw); go_simp; all_goals (with_reducible rfl))
  (try simp only [Act.put]); (try simp only [List.setIfInBounds_toArray]); (try simp only [List.set_cons_succ]); (try simp only [List.set_cons_zero])
  refine wpAnyH_take (i := 3) (v := ?_) opAt3 (by kernel_rfl) (by kernel_rfl) (by kernel_rfl) (fun _ _ _ h => h) (Or.inl ⟨by rfl, ?_⟩) hHeld ?_
  case refine_2 => (intro w hSw; (try dsimp only at hSw); go_simp; all_goals (with_reducible rfl))
  (try simp only [Act.put]); (try simp only [List.setIfInBounds_toArray]); (try simp only [List.set_cons_succ]); (try simp only [List.set_cons_zero])
  refine wpAnyH_take (i := 4) (v := ?_) opAt4 (by kernel_rfl) (by kernel_rfl) (by kernel_rfl) (fun _ _ _ h => h) (Or.inl ⟨by rfl, ?_⟩) hHeld ?_
  case refine_2 => (intro w hSw; (try dsimp only at hSw); go_simp; all_goals (with_reducible rfl))
  (try simp only [Act.put]); (try simp only [List.setIfInBounds_toArray]); (try simp only [List.set_cons_succ]); (try simp only [List.set_cons_zero])
  refine wpAnyH_take (i := 5) (v := ?_) opAt5 (by kernel_rfl) (by kernel_rfl) (by kernel_rfl) (fun _ _ _ h => h) (Or.inl ⟨by rfl, ?_⟩) hHeld ?_
  case refine_2 => (intro w hSw; (try dsimp only at hSw); go_simp; all_goals (with_reducible rfl))
  (try simp only [Act.put]); (try simp only [List.setIfInBounds_toArray]); (try simp only [List.set_cons_succ]); (try simp only [List.set_cons_zero])
  refine wpAnyH_take (i := 6) (v := ?_) opAt6 (by kernel_rfl) (by kernel_rfl) (by kernel_rfl) (fun _ _ _ h => h) (Or.inl ⟨by rfl, ?_⟩) hHeld ?_
  case refine_2 => (intro w hSw; (try dsimp only at hSw); go_simp; all_goals (with_reducible rfl))
  (try simp only [Act.put]); (try simp only [List.setIfInBounds_toArray]); (try simp only [List.set_cons_succ]); (try simp only [List.set_cons_zero])
  refine wpAnyH_take (i := 7) (v := ?_) opAt7 (by kernel_rfl) (by kernel_rfl) (by kernel_rfl) (fun _ _ _ h => h) (Or.inl ⟨by rfl, ?_⟩) hHeld ?_
  case refine_2 => (intro w hSw; (try dsimp only at hSw); go_simp; all_goals (with_reducible rfl))
  (try simp only [Act.put]); (try simp only [List.setIfInBounds_toArray]); (try simp only [List.set_cons_succ]); (try simp only [List.set_cons_zero])
  refine wpAnyH_take (i := 8) (v := ?_) opAt8 (by kernel_rfl) (by kernel_rfl) (by kernel_rfl) (fun _ _ _ h => h) (Or.inl ⟨by rfl, ?_⟩) hHeld ?_
  case refine_2 => (intro w hSw; (try dsimp only at hSw); go_simp; all_goals (with_reducible rfl))
  (try simp only [Act.put]); (try simp only [List.setIfInBounds_toArray]); (try simp only [List.set_cons_succ]); (try simp only [List.set_cons_zero])
  refine wpAnyH_take (i := 9) (v := ?_) opAt9 (by kernel_rfl) (by kernel_rfl) (by kernel_rfl) (fun _ _ _ h => h) (Or.inl ⟨by rfl, ?_⟩) hHeld ?_
  case refine_2 => (intro w hSw; (try dsimp only at hSw); go_simp; all_goals (with_reducible rfl))
  (try simp only [Act.put]); (try simp only [List.setIfInBounds_toArray]); (try simp only [List.set_cons_succ]); (try simp only [List.set_cons_zero])
  refine wpAnyH_take (i := 10) (v := ?_) opAt10 (by kernel_rfl) (by kernel_rfl) (by kernel_rfl) (fun _ _ _ h => h) (Or.inl ⟨by rfl, ?_⟩) hHeld ?_
  case refine_2 => (intro w hSw; (try dsimp only at hSw); go_simp; all_goals (with_reducible rfl))
  (try simp only [Act.put]); (try simp only [List.setIfInBounds_toArray]); (try simp only [List.set_cons_succ]); (try simp only [List.set_cons_zero])
  refine wpAnyH_take (i := 11) (v := ?_) opAt11 (by kernel_rfl) (by kernel_rfl) (by kernel_rfl) (fun _ _ _ h => h) (Or.inl ⟨by rfl, ?_⟩) hHeld ?_
  case refine_2 => (intro w hSw; (try dsimp only at hSw); go_simp; all_goals (with_reducible rfl))
  (try simp only [Act.put]); (try simp only [List.setIfInBounds_toArray]); (try simp only [List.set_cons_succ]); (try simp only [List.set_cons_zero])
  refine wpAnyH_ready (rs := [12]) (by kernel_rfl) (by simp) ?_
  refine AllReadyH.cons opAt12 (fun K hK => ?_) AllReadyH.nil
  go_simp
  go_at_call 210; refine (KX.out _).mono ?_; rintro e w3 ⟨rfl, k3⟩; have K3 := Lib.hid (tt K1.out (tt (Kept.refl _ _).drew k3)); dsimp only
  refine hK.out _ _ ?_ (fun hHeld => ?_)
  · exact ⟨k3.cell hHeld.1 (fun f => f), k3.cell hHeld.2.1 (fun f => f), k3.cell hHeld.2.2.1 (fun f => f), k3.cell hHeld.2.2.2.1 (fun f => f), k3.cell hHeld.2.2.2.2 (fun f => f)⟩
  clear hK K
  (try simp only [Act.put]); (try simp only [List.setIfInBounds_toArray]); (try simp only [List.set_cons_succ]); (try simp only [List.set_cons_zero])
  refine wpAnyH_take (i := 13) (v := ?_) opAt13 (by kernel_rfl) (by kernel_rfl) (by kernel_rfl) (fun _ _ _ h => h) (Or.inl ⟨by rfl, ?_⟩) hHeld ?_
  case refine_2 => (intro w hSw; (try dsimp only at hSw); go_simp; all_goals (with_reducible rfl))
  (try simp only [Act.put]); (try simp only [List.setIfInBounds_toArray]); (try simp only [List.set_cons_succ]); (try simp only [List.set_cons_zero])
  refine wpAnyH_take (i := 14) (v := ?_) opAt14 (by kernel_rfl) (by kernel_rfl) (by kernel_rfl) (fun _ _ _ h => h) (Or.inl ⟨by rfl, ?_⟩) hHeld ?_
  case refine_2 => (intro w hSw; (try dsimp only at hSw); go_simp; all_goals (with_reducible rfl))
  (try simp only [Act.put]); (try simp only [List.setIfInBounds_toArray]); (try simp only [List.set_cons_succ]); (try simp only [List.set_cons_zero])
  refine wpAnyH_ready (rs := [15]) (by kernel_rfl) (by simp) ?_
  refine AllReadyH.cons opAt15 (fun K hK => ?_) AllReadyH.nil
  go_simp
  go_at_call 352; refine (T.out _).mono ?_; rintro e w4 ⟨rfl, rfl⟩; dsimp only
  refine hK.out _ _ ?_ (fun hHeld => ?_)
  · exact hHeld
  clear hK K
  (try simp only [Act.put]); (try simp only [List.setIfInBounds_toArray]); (try simp only [List.set_cons_succ]); (try simp only [List.set_cons_zero])
  refine wpAnyH_take (i := 16) (v := ?_) opAt16 (by kernel_rfl) (by kernel_rfl) (by kernel_rfl) (fun _ _ _ h => h) (Or.inl ⟨by rfl, ?_⟩) hHeld ?_
  case refine_2 => (intro w hSw; (try dsimp only at hSw); go_simp; all_goals (with_reducible rfl))
  (try simp only [Act.put]); (try simp only [List.setIfInBounds_toArray]); (try simp only [List.set_cons_succ]); (try simp only [List.set_cons_zero])
  refine wpAnyH_take (i := 17) (v := ?_) opAt17 (by kernel_rfl) (by kernel_rfl) (by kernel_rfl) (fun _ _ _ h => h) (Or.inl ⟨by rfl, ?_⟩) hHeld ?_
  case refine_2 => (intro w hSw; (try dsimp only at hSw); go_simp; all_goals (with_reducible rfl))
  (try simp only [Act.put]); (try simp only [List.setIfInBounds_toArray]); (try simp only [List.set_cons_succ]); (try simp only [List.set_cons_zero])
  refine wpAnyH_take (i := 18) (v := ?_) opAt18 (by kernel_rfl) (by kernel_rfl) (by kernel_rfl) (fun _ _ _ h => h) (Or.inl ⟨by rfl, ?_⟩) hHeld ?_
  case refine_2 => (intro w hSw; (try dsimp only at hSw); go_simp; all_goals (with_reducible rfl))
  (try simp only [Act.put]); (try simp only [List.setIfInBounds_toArray]); (try simp only [List.set_cons_succ]); (try simp only [List.set_cons_zero])
  refine wpAnyH_take (i := 19) (v := ?_) opAt19 (by kernel_rfl) (by kernel_rfl) (by kernel_rfl) (fun _ _ _ h => h) (Or.inl ⟨by rfl, ?_⟩) hHeld ?_
  case refine_2 => (intro w hSw; (try dsimp only at hSw); go_simp; all_goals (with_reducible rfl))
  (try simp only [Act.put]); (try simp only [List.setIfInBounds_toArray]); (try simp only [List.set_cons_succ]); (try simp only [List.set_cons_zero])
  refine wpAnyH_done (by kernel_rfl) ?_ _
  go_wp2
  go_ret2
  exact ⟨rfl, K3.out⟩

/-- The cells of a span that may be: itself, and in the index. -/
def cellsOfS (m : Spn) : List Value := [.string (keyF m.tr m.id), .int .i64 0, .string (encF m), .string (xkeyF m), .int .i64 0, .string .empty]
def TwoCells (w : World) (m : Spn) (e : Ending) (w' : World) : Prop := ∃ g, e = .returned (.tuple #[.slice (some ⟨g, 0, none⟩) 2 2, .int .i64 0]) ∧ w.heap.size ≤ g ∧ (∀ j u, (cellsOfS m)[j]? = some u → w'.cell? ⟨g, j, none⟩ = some u) ∧ Kept (fun _ => False) w w'
set_option maxHeartbeats 2000000 in
set_option maxRecDepth 100000 in
theorem cells_good (m : Spn) (w : World) (hB : chkB m = true) : Calls Tryz.prog 143 #[aggS m] w (TwoCells w m) := by
  have tt : ∀ {a b c : World}, Kept (fun _ => False) a b → Kept (fun _ => False) b c → Kept (fun _ => False) a c := fun h k => h.trans k (fun _ _ h => h) (fun _ _ h => h)
  obtain ⟨y1, y2, y3⟩ := chk_size hB
  have gn := chk_num hB
  have EN := Lib.hid (enc_all m (by omega) (by omega) (by omega))
  unfold encR at EN
  rw [hB] at EN
  have OF := Lib.hid (fun w => of_all m.tr m.id w (by omega) (by omega))
  unfold keyR at OF
  rw [chk_of hB] at OF
  have IX := Lib.hid (fun w => index_good m w hB)
  unfold TwoCells cellsOfS
  obtain ⟨ev, hev⟩ : ∃ ev, encF m = ev := ⟨_, rfl⟩
  obtain ⟨kv, hkv⟩ : ∃ kv, keyF m.tr m.id = kv := ⟨_, rfl⟩
  obtain ⟨xv, hxv⟩ : ∃ xv, xkeyF m = xv := ⟨_, rfl⟩
  rw [hev] at EN ⊢
  rw [hkv] at OF ⊢
  rw [hxv] at IX ⊢
  clear hB gn hev hkv hxv
  unfold aggS at EN IX ⊢
  go_enter Tryz.func143, Tryz.ntmps143
  go_wp2_with fail
  refine (EN.out _).mono ?_
  rintro e w1 ⟨rfl, k1⟩
  have d0 := k1.cell (a := ⟨w.heap.size, 0, none⟩) (v := .int .i64 m.tr) (by go_simp) (fun f => f)
  have d1 := k1.cell (a := ⟨w.heap.size, 1, none⟩) (v := .int .i64 m.id) (by go_simp) (fun f => f)
  have d2 := k1.cell (a := ⟨w.heap.size, 2, none⟩) (v := .int .i64 m.pa) (by go_simp) (fun f => f)
  have d3 := k1.cell (a := ⟨w.heap.size, 3, none⟩) (v := .string m.se) (by go_simp) (fun f => f)
  have d4 := k1.cell (a := ⟨w.heap.size, 4, none⟩) (v := .string m.ho) (by go_simp) (fun f => f)
  have d5 := k1.cell (a := ⟨w.heap.size, 5, none⟩) (v := .int .i64 m.st) (by go_simp) (fun f => f)
  have d6 := k1.cell (a := ⟨w.heap.size, 6, none⟩) (v := .int .i64 m.du) (by go_simp) (fun f => f)
  have d7 := k1.cell (a := ⟨w.heap.size, 7, none⟩) (v := .string m.no) (by go_simp) (fun f => f)
  have K1 := Lib.hid (tt ((Kept.refl _ _).alloc _) k1)
  clear k1
  go_wp2_with fail
  refine (OF.out _).mono ?_
  rintro e w2 ⟨rfl, k2⟩
  have f0 := k2.cell (a := ⟨w.heap.size, 0, none⟩) (v := .int .i64 m.tr) d0 (fun f => f)
  have f1 := k2.cell (a := ⟨w.heap.size, 1, none⟩) (v := .int .i64 m.id) d1 (fun f => f)
  have f2 := k2.cell (a := ⟨w.heap.size, 2, none⟩) (v := .int .i64 m.pa) d2 (fun f => f)
  have f3 := k2.cell (a := ⟨w.heap.size, 3, none⟩) (v := .string m.se) d3 (fun f => f)
  have f4 := k2.cell (a := ⟨w.heap.size, 4, none⟩) (v := .string m.ho) d4 (fun f => f)
  have f5 := k2.cell (a := ⟨w.heap.size, 5, none⟩) (v := .int .i64 m.st) d5 (fun f => f)
  have f6 := k2.cell (a := ⟨w.heap.size, 6, none⟩) (v := .int .i64 m.du) d6 (fun f => f)
  have f7 := k2.cell (a := ⟨w.heap.size, 7, none⟩) (v := .string m.no) d7 (fun f => f)
  have K2 := Lib.hid (tt K1.out k2)
  clear k2
  go_wp2_with fail
  refine (IX.out _).mono ?_
  rintro e w3 ⟨rfl, k3⟩
  have K3 := Lib.hid (tt K2.out k3)
  clear k3
  go_wp2
  go_ret2
  refine ⟨w3.heap.size, rfl, K3.out.size, fun j u hu => ?_, K3.out.alloc _⟩
  rcases j with _ | _ | _ | _ | _ | _ | j <;> simp at hu <;> subst hu <;> first | (simp; done) | (simp; rfl)
end Go.Proofs.YthkcicilmhpfjaaGreatDoor

/- What maps do, of whatever many entries whose keys are texts. Plain laws on one block. -/
namespace Go.Proofs.YthkcicilmhpfjaaGreatDoor
open Go.RowKit Go.MapKept Go.Instr Go.ChangeMaps

theorem cell_map {w : World} {b j c : Nat} {es : Array MapEntry} (h : w.heap[b]? = some (.map es c)) : w.cell? ⟨b, j, none⟩ = none := by simp [World.cell?, h]
theorem set_same {w : World} {b : Nat} (o : Obj) (h : b < w.heap.size) : (setBlock w b o).heap[b]? = some o := by simp [setBlock, h]
theorem uMapN : Tryz.prog.underlying 230 = some (.map 9 3) := Tryz.underlying230
def keyV (k : ByteArray) : Value := .string k
abbrev KV := ByteArray × Value
/-- The entries of a map into which these were laid one by one, the first one numbered n. -/
def entsL : Nat → List KV → List MapEntry
  | _, [] => []
  | n, p :: t => ⟨keyV p.1, p.2, n⟩ :: entsL (n + 1) t
theorem entsL_length : ∀ (n : Nat) (L : List KV), (entsL n L).length = L.length
  | _, [] => rfl
  | n, p :: t => by simp [entsL, entsL_length (n + 1) t]
theorem entsL_at : ∀ (n : Nat) (L : List KV) (i : Nat), (entsL n L)[i]? = (L[i]?).map (fun p => ⟨keyV p.1, p.2, n + i⟩)
  | _, [], i => by simp [entsL]
  | n, p :: t, 0 => by simp [entsL]
  | n, p :: t, i + 1 => by simp [entsL, entsL_at (n + 1) t i]; congr 1; funext q; simp; omega
theorem entsL_append : ∀ (n : Nat) (L T : List KV), entsL n (L ++ T) = entsL n L ++ entsL (n + L.length) T
  | _, [], T => by simp [entsL]
  | n, p :: t, T => by simp [entsL, entsL_append (n + 1) t T]; congr 1; omega
/-- The place of a key, as it is looked for. -/
def idxL (k : ByteArray) : List KV → Option Nat
  | [] => none
  | p :: t => if k = p.1 then some 0 else (idxL k t).map (· + 1)
theorem idxL_some : ∀ {k : ByteArray} {L : List KV} {i : Nat}, idxL k L = some i → ∃ p, L[i]? = some p ∧ p.1 = k
  | k, [], i, h => by simp [idxL] at h
  | k, p :: t, i, h => by
    unfold idxL at h
    split at h
    · rename_i e; cases h; exact ⟨p, rfl, e.symm⟩
    · cases hi : idxL k t with
      | none => simp [hi] at h
      | some j => simp [hi] at h; subst h; simpa using idxL_some hi
theorem idxL_none : ∀ {k : ByteArray} {L : List KV}, idxL k L = none → ∀ p ∈ L, p.1 ≠ k
  | k, [], h, p, hp => by simp at hp
  | k, q :: t, h, p, hp => by
    unfold idxL at h
    split at h
    · cases h
    · rename_i e
      have h2 : idxL k t = none := by cases hi : idxL k t with
        | none => rfl
        | some j => simp [hi] at h
      rcases List.mem_cons.1 hp with rfl | hp
      · exact fun e2 => e e2.symm
      · exact idxL_none h2 p hp
theorem ba_beq (k l : ByteArray) : (k == l) = decide (k = l) := by
  cases k; cases l
  rw [Bool.eq_iff_iff, decide_eq_true_iff, ByteArray.mk.injEq]
  exact beq_iff_eq (α := Array UInt8)
theorem eqK (k l : ByteArray) (w : World) : (Op.equal 9 (keyV k) (keyV l)).run Tryz.prog w = .ok (decide (k = l)) w := by
  rw [← ba_beq]
  kernel_rfl
theorem now_any (k : ByteArray) : ∀ (L : List KV) (n i : Nat), findNow .string (keyV k) (entsL n L) i = some ((idxL k L).map (fun j => (i + j, ((L[j]?).map (·.2)).getD undef)))
  | [], n, i => by simp [entsL, findNow, idxL]
  | p :: t, n, i => by
    have ih := now_any k t (n + 1) (i + 1)
    have hs : sameNow .string (keyV k) (keyV p.1) = some (k == p.1) := rfl
    unfold entsL findNow idxL
    simp only [hs, ba_beq]
    by_cases e : k = p.1
    · simp [e]
    · simp only [e, decide_false, ih, if_false]
      cases hi : idxL k t with
      | none => simp
      | some j => simp; omega
theorem findk_any (k : ByteArray) (w : World) (L : List KV) (n : Nat) : (findKey 9 (keyV k) (entsL n L)).run Tryz.prog w = .ok ((idxL k L).map (fun j => (j, ((L[j]?).map (·.2)).getD undef))) w := by
  have hu : Tryz.prog.underlying 9 = some .string := Tryz.underlying9
  have h := now_any k L n 0
  simp only [Nat.zero_add] at h
  unfold findKey
  simp only [Sem.run_bind, run_underlying hu, Result.andThen_ok, h]
  rfl
set_option maxRecDepth 100000 in
theorem ckS (k : ByteArray) (e : Bool) (w : World) : (checkKey e 10000 9 (keyV k)).run Tryz.prog w = .ok () w := by cases e <;> kernel_rfl
theorem stays_any (k : ByteArray) (w : World) : (keyThatStays (keyV k) (keyV k)).run Tryz.prog w = .ok (keyV k) w := by
  have h : sameBits 10000 (keyV k) (keyV k) = true := by simp [keyV, sameBits, ba_beq]
  unfold keyThatStays
  simp [h]
/-- The map of these lies in block b. -/
def MapIs (w : World) (b : Nat) (L : List KV) : Prop := w.heap[b]? = some (.map (entsL 0 L).toArray L.length)
theorem MapIs.lt {w : World} {b : Nat} {L : List KV} (h : MapIs w b L) : b < w.heap.size := (Array.getElem?_eq_some_iff.1 h).1
theorem MapIs.kept {S : Nat → Prop} {w w' : World} {b : Nat} {L : List KV} (h : MapIs w b L) (hK : Kept S w w') (hS : ¬ S b) : MapIs w' b L := (hK.block b h.lt hS).trans h
theorem MapIs.not_cell {w : World} {b j : Nat} {L : List KV} (h : MapIs w b L) : w.cell? ⟨b, j, none⟩ = none := cell_map h
/-- A key's entry: what is there, or z behind the last one. -/
def oldL (k : ByteArray) (z : Value) (L : List KV) : Value := ((idxL k L).map (fun j => ((L[j]?).map (·.2)).getD undef)).getD z
def entL (k : ByteArray) (z : Value) (L : List KV) : List KV := if (idxL k L).isSome then L else L ++ [(k, z)]
def stampL (k : ByteArray) (L : List KV) : Nat := (idxL k L).getD L.length
def putK (k : ByteArray) (v : Value) (L : List KV) : List KV := if (idxL k L).isSome then L.set (stampL k L) (k, v) else L ++ [(k, v)]

theorem lookN {w : World} {b : Nat} {L : List KV} (h : MapIs w b L) (k : ByteArray) : (Instr.lookup 230 (.map (some b)) (keyV k) false).run Tryz.prog w = .ok (oldL k (.int .i64 0) L) w := by
  have f := findk_any k w L 0
  unfold Instr.lookup
  simp only [Sem.run_bind, run_underlying uMapN, Go.MapKept.run_getObj_map h, Result.andThen_ok, Sem.run_pure, ckS, f]
  unfold oldL
  cases hi : idxL k L with
  | none => simp
  | some j => simp
theorem modify_same {L : List KV} {i : Nat} {p : KV} (h : L[i]? = some p) : (entsL 0 L).toArray.modify i (fun e => { e with key := keyV p.1 }) = (entsL 0 L).toArray := by
  apply Array.ext_getElem?
  intro j
  rw [Array.getElem?_modify]
  split
  · rename_i e; subst e; simp [entsL_at, h]
  · rfl
theorem modify_val {L : List KV} {i : Nat} {p : KV} (v : Value) (h : L[i]? = some p) : (entsL 0 L).toArray.modify i (fun e => { e with val := v }) = (entsL 0 (L.set i (p.1, v))).toArray := by
  apply Array.ext_getElem?
  intro j
  rw [Array.getElem?_modify]
  have hl := (List.getElem?_eq_some_iff.1 h).1
  split
  · rename_i e; subst e
    have h2 : L[i] = p := (List.getElem?_eq_some_iff.1 h).2
    simp [entsL_at, hl, h2]
  · rename_i e; simp [entsL_at, e]
theorem modify_both {L : List KV} {i : Nat} {p : KV} (v : Value) (h : L[i]? = some p) : (entsL 0 L).toArray.modify i (fun e => { e with key := keyV p.1, val := v }) = (entsL 0 (L.set i (p.1, v))).toArray := by
  apply Array.ext_getElem?
  intro j
  rw [Array.getElem?_modify]
  have hl := (List.getElem?_eq_some_iff.1 h).1
  split
  · rename_i e; subst e
    have h2 : L[i] = p := (List.getElem?_eq_some_iff.1 h).2
    simp [entsL_at, hl, h2]
  · rename_i e; simp [entsL_at, e]
theorem push_ents (L : List KV) (k : ByteArray) (v : Value) : (entsL 0 L).toArray.push ⟨keyV k, v, L.length⟩ = (entsL 0 (L ++ [(k, v)])).toArray := by
  rw [entsL_append]; simp [entsL]
theorem idx_born (L : List KV) (i : Nat) (h : i < L.length) : (entsL 0 L).toArray.findIdx? (fun e => (e.born : Int) == (i : Int)) = some i := by
  rw [List.findIdx?_toArray, List.findIdx?_eq_some_iff_getElem]
  refine ⟨by rw [entsL_length]; exact h, ?_, fun j hj => ?_⟩
  · have := entsL_at 0 L i
    rw [List.getElem?_eq_getElem (by rw [entsL_length]; exact h), List.getElem?_eq_getElem h] at this
    have := Option.some.inj this
    simp [this]
  · have := entsL_at 0 L j
    rw [List.getElem?_eq_getElem (by rw [entsL_length]; omega), List.getElem?_eq_getElem (by omega)] at this
    have := Option.some.inj this
    simp [this]; omega
theorem ent_at (k : ByteArray) (z : Value) (L : List KV) : ∃ p, (entL k z L)[stampL k L]? = some p ∧ p.1 = k := by
  unfold entL stampL
  cases hi : idxL k L with
  | none => exact ⟨(k, z), by simp, rfl⟩
  | some i => obtain ⟨p, hp, e⟩ := idxL_some hi; exact ⟨p, by simpa using hp, e⟩
theorem put_ent (k : ByteArray) (z v : Value) (L : List KV) : (entL k z L).set (stampL k L) (k, v) = putK k v L := by
  unfold entL putK stampL
  cases hi : idxL k L with
  | none => simp
  | some i => simp
theorem putK_length (k : ByteArray) (z v : Value) (L : List KV) : (putK k v L).length = (entL k z L).length := by rw [← put_ent k z v L]; simp
theorem putN {w : World} {b : Nat} {L : List KV} (h : MapIs w b L) (k : ByteArray) (v : Value) : (Instr.mapUpdate 230 (.map (some b)) (keyV k) v).run Tryz.prog w = .ok () (setBlock w b (.map (entsL 0 (putK k v L)).toArray (putK k v L).length)) := by
  have f := findk_any k w L 0
  unfold Instr.mapUpdate
  simp only [Sem.run_bind, run_underlying uMapN, Go.MapKept.run_getObj_map h, Result.andThen_ok, ckS, f]
  unfold putK stampL
  cases hi : idxL k L with
  | none =>
    simp only [Option.map_none, Go.MapKept.run_setObj_map _ h, push_ents]
    simp [setBlock]
  | some i =>
    obtain ⟨p, hp, rfl⟩ := idxL_some hi
    have e : (entsL 0 L).toArray[i]? = some ⟨keyV p.1, p.2, i⟩ := by simp [entsL_at, hp]
    simp only [Option.map_some, e, Option.getD_some, Sem.run_bind, stays_any, Result.andThen_ok, modify_both v hp, Go.MapKept.run_setObj_map _ h]
    simp [setBlock]
theorem MapIs.set {w : World} {b : Nat} {L : List KV} (hb : b < w.heap.size) : MapIs (setBlock w b (.map (entsL 0 L).toArray L.length)) b L := set_same _ hb
end Go.Proofs.YthkcicilmhpfjaaGreatDoor

/- rows.Expired of any span; rows.Take of spans that may be, whatever is there: its parts. -/
namespace Go.Proofs.YthkcicilmhpfjaaGreatDoor
open Go.RowKit Go.MapKept Go.Instr Go.ChangeMaps

instance baLawful : LawfulBEq ByteArray := {
  eq_of_beq := fun {a b} h => of_decide_eq_true ((ba_beq a b).symm.trans h)
  rfl := fun {a} => (ba_beq a a).trans (decide_eq_true rfl) }
theorem own_kept {S : Nat → Prop} {w w' : World} {base e size : Nat} {v : Value} {n : Nat} {xs : List Value} (h : w.ownsRow base e size v n xs) (hK : Kept S w w') (hv : ∀ b, v.ownBlock = some b → ¬ S b) : w'.ownsRow base e size v n xs := by
  obtain ⟨h1, h2⟩ := h
  refine ⟨h1, ?_⟩
  rcases h2 with h2 | ⟨g, cap, cur, rfl, hb, hg, rest⟩
  · exact .inl h2
  · exact .inr ⟨g, cap, cur, rfl, hb, (hK.block g (Array.getElem?_eq_some_iff.1 hg).1 (hv g rfl)).trans hg, rest⟩
theorem own_from {w : World} {base e size : Nat} {v : Value} {n : Nat} {xs : List Value} (h : w.ownsRow base e size v n xs) {q : Nat} (hq : v.ownBlock = some q) : base ≤ q := by
  rcases h.2 with ⟨rfl, _⟩ | ⟨g, cap, cur, rfl, hb, _⟩
  · cases hq
  · cases hq; exact hb
theorem own_slice {w : World} {base e size : Nat} {v : Value} {n : Nat} {xs : List Value} (h : w.ownsRow base e size v n xs) : ∃ a c, v = .slice a n c := by
  rcases row_form h with ⟨h1, h2⟩ | ⟨g, c, h1, _⟩
  · exact ⟨none, 0, by rw [h1, h2]⟩
  · exact ⟨_, _, h1⟩
theorem own_block {w : World} {base e size : Nat} {v : Value} {n : Nat} {xs : List Value} (h : w.ownsRow base e size v n xs) {q : Nat} (hq : v.ownBlock = some q) : ∃ cur, w.heap[q]? = some (.cells cur e (0, 0)) := by
  rcases h.2 with ⟨rfl, _⟩ | ⟨g, cap, cur, rfl, _, hg, _⟩
  · cases hq
  · cases hq; exact ⟨cur, hg⟩
theorem own_lt2 {w : World} {base e size : Nat} {v : Value} {n : Nat} {xs : List Value} (h : w.ownsRow base e size v n xs) {q : Nat} (hq : v.ownBlock = some q) : q < w.heap.size := by
  obtain ⟨cur, hc⟩ := own_block h hq
  exact (Array.getElem?_eq_some_iff.1 hc).1
theorem own_types {w : World} {b b' e e' s s' : Nat} {v v' : Value} {n n' : Nat} {xs xs' : List Value} (h : w.ownsRow b e s v n xs) (h' : w.ownsRow b' e' s' v' n' xs') (hne : ¬ e = e') {q : Nat} (hq : v.ownBlock = some q) : ¬ v'.ownBlock = some q := fun hq' => by
  obtain ⟨c, h1⟩ := own_block h hq
  obtain ⟨c', h2⟩ := own_block h' hq'
  rw [h1] at h2
  cases h2
  exact hne rfl
theorem own_map {w : World} {base e size : Nat} {v : Value} {n : Nat} {xs : List Value} {b : Nat} {L : List KV} (h : w.ownsRow base e size v n xs) (hm : MapIs w b L) : ¬ v.ownBlock = some b := fun hq => by
  obtain ⟨c, h1⟩ := own_block h hq
  unfold MapIs at hm
  rw [h1] at hm
  cases hm

def lateB (st now : Int) : Bool := decide (60 ≤ now - st)
theorem late_all (st now : Int) (h0 : 0 ≤ st) (h3 : now ≤ 9223372036854775807) (h4 : st ≤ 9223372036854775807) (w : World) : Calls Tryz.prog 211 #[.int .i64 st, .int .i64 now] w fun e w' => e = .returned (.bool (lateB st now)) ∧ w = w' := by
  by_cases h : st ≤ now
  · go_enter Tryz.func211, Tryz.ntmps211
    go_wp2
    go_ret
    exact ⟨by unfold lateB; rfl, rfl⟩
  · go_enter Tryz.func211, Tryz.ntmps211
    go_wp2
    go_ret
    have e : lateB st now = false := by unfold lateB; simp; omega
    exact ⟨by rw [e]; rfl, rfl⟩
set_option maxRecDepth 100000 in
theorem expired_all (m : Spn) (now : Int) (h0 : 0 ≤ m.st) (h3 : now ≤ 9223372036854775807) (h4 : m.st ≤ 9223372036854775807) (w : World) : Calls Tryz.prog 144 #[aggS m, .int .i64 now] w fun e w' => e = .returned (.bool (lateB m.st now)) ∧ Kept (fun _ => False) w w' := by
  have L := Lib.hid (late_all m.st now h0 h3 h4)
  unfold aggS
  go_enter Tryz.func144, Tryz.ntmps144
  go_wp2_with (go_at_call 211; refine (L.out _).mono ?_; rintro e w4 ⟨rfl, rfl⟩)
  go_ret
  exact ⟨rfl, (Kept.refl _ w).alloc _⟩

/-- Keys, each seen once. -/
def seenV (K : List ByteArray) : List KV := K.map fun k => (k, .int .i64 1)
theorem idx_seen (k : ByteArray) : ∀ K : List ByteArray, (idxL k (seenV K)).isSome = decide (k ∈ K)
  | [] => by simp [seenV, idxL]
  | x :: t => by
    have ih := idx_seen k t
    unfold seenV at ih ⊢
    simp only [List.map_cons, idxL]
    by_cases e : k = x
    · simp [e]
    · simp only [e, if_false, Option.isSome_map, ih, List.mem_cons, false_or]
def oneN : Bool → Int | true => 1 | false => 0
theorem old_seen (k : ByteArray) (K : List ByteArray) : oldL k (.int .i64 0) (seenV K) = .int .i64 (oneN (decide (k ∈ K))) := by
  have h := idx_seen k K
  unfold oldL
  cases hi : idxL k (seenV K) with
  | none => rw [hi] at h; rw [← h]; rfl
  | some j =>
    rw [hi] at h; rw [← h]
    obtain ⟨p, hp, _⟩ := idxL_some hi
    have : p.2 = .int .i64 1 := by
      unfold seenV at hp
      rw [List.getElem?_map] at hp
      cases hk : K[j]? with
      | none => simp [hk] at hp
      | some y => simp [hk] at hp; rw [← hp]
    simp [hp, this, oneN]
theorem put_seen {k : ByteArray} {K : List ByteArray} (h : decide (k ∈ K) = false) : putK k (.int .i64 1) (seenV K) = seenV (K ++ [k]) := by
  have h2 := idx_seen k K
  rw [h] at h2
  unfold putK
  rw [h2]
  simp [seenV]
theorem look_seen {w : World} {b : Nat} {K : List ByteArray} (h : MapIs w b (seenV K)) (k : ByteArray) : (Instr.lookup 230 (.map (some b)) (.string k) false).run Tryz.prog w = .ok (.int .i64 (oneN (decide (k ∈ K)))) w := by
  have h2 := lookN h k
  rw [old_seen] at h2
  exact h2
theorem upd_seen {w : World} {b : Nat} {K : List ByteArray} (h : MapIs w b (seenV K)) {k : ByteArray} (hk : decide (k ∈ K) = false) : ∃ w', (Instr.mapUpdate 230 (.map (some b)) (.string k) (.int .i64 1)).run Tryz.prog w = .ok () w' ∧ MapIs w' b (seenV (K ++ [k])) ∧ Kept (fun q => q = b) w w' := by
  have h2 := putN h k (.int .i64 1)
  rw [put_seen hk] at h2
  refine ⟨_, h2, MapIs.set h.lt, ⟨rfl, rfl, rfl, by simp [setBlock], fun q hq hS => ?_⟩⟩
  simp only [setBlock]
  have : b ≠ q := fun e => hS e.symm
  simp [Array.getElem?_setIfInBounds_ne this]

/-- A span's key. -/
def keyS (m : Spn) : ByteArray := keyF m.tr m.id
/-- The spans of a list that are taken: none that is late, that was ahead, or that is there. -/
def takeR (now : Int) (oldB : ByteArray → Bool) : List Spn → List ByteArray → List Spn
  | [], _ => []
  | m :: t, K => match lateB m.st now || decide (keyS m ∈ K) || oldB (keyS m) with
    | true => takeR now oldB t K
    | false => m :: takeR now oldB t (K ++ [keyS m])
def cellsT : List Spn → List Value
  | [] => []
  | m :: t => cellsOfS m ++ cellsT t
theorem cellsT_append : ∀ a b, cellsT (a ++ b) = cellsT a ++ cellsT b
  | [], b => rfl
  | m :: t, b => by simp [cellsT, cellsT_append t b]

/-- What a round rests upon: the span, its cells, the keys that were seen, and what was taken. -/
structure Mid (w : World) (base ns g b : Nat) (m : Spn) (K : List ByteArray) (vo vc : Value) (O : List Spn) : Prop where
  span : SpanAt w ns m
  two : ∀ j u, (cellsOfS m)[j]? = some u → w.cell? ⟨g, j, none⟩ = some u
  map : MapIs w b (seenV K)
  out : w.ownsRow base 111 8 vo O.length (cellsS O)
  cells : w.ownsRow base 38 3 vc (2 * O.length) (cellsT O)
  far : ∀ q, vo.ownBlock = some q → ¬ q = g
theorem Mid.keptF {w w' : World} {base ns g b : Nat} {m : Spn} {K : List ByteArray} {vo vc : Value} {O : List Spn} (h : Mid w base ns g b m K vo vc O) (k : Kept (fun _ => False) w w') : Mid w' base ns g b m K vo vc O :=
  ⟨h.span.keptF k, fun j u hu => k.cell (h.two j u hu) (fun f => f), h.map.kept k (fun f => f), own_kept h.out k (fun _ _ f => f), own_kept h.cells k (fun _ _ f => f), h.far⟩
theorem cell_ne_map {w : World} {q j b : Nat} {u : Value} {L : List KV} (h : w.cell? ⟨q, j, none⟩ = some u) (hm : MapIs w b L) : ¬ q = b := fun e => by
  have := hm.not_cell (j := j)
  rw [← e, h] at this
  cases this
theorem Mid.seen {w w' : World} {base ns g b : Nat} {m : Spn} {K K' : List ByteArray} {vo vc : Value} {O : List Spn} (h : Mid w base ns g b m K vo vc O) (k : Kept (fun q => q = b) w w') (hm : MapIs w' b (seenV K')) : Mid w' base ns g b m K' vo vc O :=
  ⟨h.span.kept k (cell_ne_map (h.span 0 _ rfl) h.map), fun j u hu => k.cell (h.two j u hu) (cell_ne_map (h.two j u hu) h.map), hm, own_kept h.out k (fun _ hq e => own_map h.out h.map (e ▸ hq)), own_kept h.cells k (fun _ hq e => own_map h.cells h.map (e ▸ hq)), h.far⟩
theorem drop_step {L : List Spn} {i : Nat} {m : Spn} (h : L[i]? = some m) : m :: L.drop (i + 1) = L.drop i := by
  obtain ⟨hl, e⟩ := List.getElem?_eq_some_iff.1 h
  rw [← e]; exact (List.drop_eq_getElem_cons hl).symm
theorem inf111 : (Tryz.prog.info? 111).map (fun i => (i.zero, i.size, i.bytes)) = some (some (.agg #[.int .i64 0, .int .i64 0, .int .i64 0, .string ⟨#[]⟩, .string ⟨#[]⟩, .int .i64 0, .int .i64 0, .string ⟨#[]⟩]), 8, 88) := by kernel_rfl
theorem inf38 : (Tryz.prog.info? 38).map (fun i => (i.zero, i.size, i.bytes)) = some (some (.agg #[.string ⟨#[]⟩, .int .i64 0, .string ⟨#[]⟩]), 3, 40) := by kernel_rfl
end Go.Proofs.YthkcicilmhpfjaaGreatDoor

/- rows.Take of spans that may be, by whatever is there. -/
namespace Go.Proofs.YthkcicilmhpfjaaGreatDoor
open Go.RowKit Go.MapKept Go.Instr Go.ChangeMaps

def TakenAs (w : World) (now : Int) (oldB : ByteArray → Bool) (L : List Spn) (e : Ending) (w' : World) : Prop :=
  ∃ vo vc, e = .returned (.tuple #[vo, vc]) ∧ w'.ownsRow w.heap.size 111 8 vo (takeR now oldB L []).length (cellsS (takeR now oldB L [])) ∧ w'.ownsRow w.heap.size 38 3 vc (2 * (takeR now oldB L []).length) (cellsT (takeR now oldB L [])) ∧ Kept (fun _ => False) w w'
/-- A cell. -/
structure Ce where
  ke : ByteArray
  sq : Int
  va : ByteArray
  deriving Inhabited
def aggC (c : Ce) : Value := .agg #[.string c.ke, .int .i64 c.sq, .string c.va]

set_option maxHeartbeats 8000000 in
set_option maxRecDepth 100000 in
theorem take_rows {w : World} {p v : Value} {L : List Spn} (now : Int) (gc : ByteArray → Ce) (gb : ByteArray → Bool) (dr : Ce → Bool) (hr : ReadsS w v L) (hl : L.length ≤ 20) (hchk : ∀ m ∈ L, chkB m = true) (hnow : now ≤ 9223372036854775807)
    (G : ∀ w', Kept (fun _ => False) w w' → ∀ k, Calls Tryz.prog 15 #[p, .string k] w' fun e w'' => e = .returned (.tuple #[aggC (gc k), .bool (gb k)]) ∧ Kept (fun _ => False) w' w'')
    (D : ∀ w' k, gb k = true → Calls Tryz.prog 116 #[aggC (gc k), .int .i64 now] w' fun e w'' => e = .returned (.bool (dr (gc k))) ∧ Kept (fun _ => False) w' w'') :
    Calls Tryz.prog 71 #[.func (.func 15) #[p] #[], v, .int .i64 now] w (TakenAs w now (fun k => gb k && !dr (gc k)) L) := by
  obtain ⟨ao, cap, rfl, h⟩ := hr
  obtain ⟨i0, hi0, hz0, hz1, hz2⟩ := info_parts inf111
  obtain ⟨j0, hj0, hy0, hy1, hy2⟩ := info_parts inf38
  have HR := Lib.hid h
  have CHK := Lib.hid hchk
  have GG := Lib.hid G
  have DD := Lib.hid D
  have tt : ∀ {a b c : World}, Kept (fun _ => False) a b → Kept (fun _ => False) b c → Kept (fun _ => False) a c := fun h k => h.trans k (fun _ _ h => h) (fun _ _ h => h)
  have MK : ∀ W : World, (makeMap 230 none).run Tryz.prog W = .ok (.map (some W.heap.size)) (W.alloc (.map #[] 0)) := fun W => run_makeMap 230 W
  obtain ⟨n, hn⟩ : ∃ n, L.length = n := ⟨_, rfl⟩
  rw [hn] at hl ⊢
  have HN := Lib.hid hn
  clear h hchk G D hn
  unfold TakenAs
  obtain ⟨old, hold⟩ : ∃ old, (fun k => gb k && !dr (gc k)) = old := ⟨_, rfl⟩
  rw [hold]
  obtain ⟨T, hT⟩ : ∃ T, takeR now old L [] = T := ⟨_, rfl⟩
  rw [hT]
  have HO := Lib.hid hold
  have HT := Lib.hid hT
  clear hold hT
  go_enter Tryz.func71, Tryz.ntmps71
  go_wp2
  obtain ⟨b, hb⟩ : ∃ b, w.heap.size = b := ⟨_, rfl⟩
  have HB := Lib.hid hb
  rw [hb]
  go_loopg [20, 8, 9] n (fun gh t vo vc wr => ∃ (i : Nat) (O : List Spn) (K : List ByteArray), i + gh = n ∧ t = .int .i64 i ∧ O.length ≤ i ∧ Kept (fun _ => False) w wr ∧ MapIs wr b (seenV K) ∧ wr.ownsRow b 111 8 vo O.length (cellsS O) ∧ wr.ownsRow b 38 3 vc (2 * O.length) (cellsT O) ∧ O ++ takeR now old (L.drop i) K = T)
  case atStart => exact ⟨0, [], [], by omega, rfl, by simp, (Kept.refl _ _).alloc _, by rw [← HB.out]; exact heap_alloc_new w _, World.ownsRow_nil _ _ _ _, World.ownsRow_nil _ _ _ _, by rw [List.drop_zero, List.nil_append]; exact HT.out⟩
  case round =>
    obtain ⟨i, O, K, ji, rfl, oi, hK, hM, hO, hC, hT⟩ := hrel
    rename_i vo vc _
    have JI := Lib.hid ji
    have KW := Lib.hid hK
    have TT := Lib.hid hT
    have OI := Lib.hid oi
    obtain ⟨ov, oc, rfl⟩ := own_slice hO
    obtain ⟨cv, cc, rfl⟩ := own_slice hC
    have MM := Lib.hid hM
    have OO := Lib.hid hO
    have OC := Lib.hid hC
    clear ji hK hT oi hM hO hC
    by_cases hlt : i < n
    · rcases HR.out with e0 | ⟨g0, o0, rfl, hc⟩
      · have := HN.out; rw [e0] at this; simp at this; omega
      obtain ⟨m, hm⟩ : ∃ m, L[i]? = some m := ⟨_, List.getElem?_eq_getElem (by rw [HN.out]; exact hlt)⟩
      obtain ⟨q0, q1, q2, q3, q4, q5, q6, q7⟩ := ReadsS.at (fun j u hu => KW.out.cell (hc j u hu) (fun f => f)) hm
      have hB := CHK.out m (List.mem_of_getElem? hm)
      have gn := chk_num hB
      have C := Lib.hid (fun w => cells_good m w hB)
      have X := Lib.hid (expired_all m now (by omega) hnow (by omega))
      have DS := Lib.hid (drop_step hm)
      have i1 : (0 : Int) ≤ (i : Int) := by omega
      have i2 : (i : Int) < (n : Int) := by omega
      clear hc hm hB gn
      unfold aggS at C X
      obtain ⟨late, hlate⟩ : ∃ late, lateB m.st now = late := ⟨_, rfl⟩
      have LT := Lib.hid hlate
      rw [hlate] at X
      clear hlate
      go_wp2_with fail
      refine (C.out _).mono ?_
      rintro e w1 ⟨g, rfl, hg, h2, k1⟩
      have MID := Lib.hid (show Mid w1 b wr.heap.size g b m K (.slice ov O.length oc) (.slice cv (2 * O.length) cc) O from
        ⟨SpanAt.new.keptF k1, h2, (MM.out.kept ((Kept.refl (fun _ => False) wr).alloc _) (fun f => f)).kept k1 (fun f => f), own_kept (own_kept OO.out ((Kept.refl (fun _ => False) wr).alloc _) (fun _ _ f => f)) k1 (fun _ _ f => f), own_kept (own_kept OC.out ((Kept.refl (fun _ => False) wr).alloc _) (fun _ _ f => f)) k1 (fun _ _ f => f), fun q hq e => by have := own_lt2 OO.out hq; simp at hg; omega⟩)
      have K1 := Lib.hid (tt KW.out (tt ((Kept.refl _ _).alloc _) k1))
      obtain ⟨ns, hns⟩ : ∃ ns, wr.heap.size = ns := ⟨_, rfl⟩
      rw [hns] at MID ⊢
      clear hg h2 k1 q0 q1 q2 q3 q4 q5 q6 q7 MM OO OC hns
      have s0 : w1.cell? ⟨ns, 0, none⟩ = some (.int .i64 m.tr) := MID.out.span 0 _ rfl
      have s1 : w1.cell? ⟨ns, 1, none⟩ = some (.int .i64 m.id) := MID.out.span 1 _ rfl
      have s2 : w1.cell? ⟨ns, 2, none⟩ = some (.int .i64 m.pa) := MID.out.span 2 _ rfl
      have s3 : w1.cell? ⟨ns, 3, none⟩ = some (.string m.se) := MID.out.span 3 _ rfl
      have s4 : w1.cell? ⟨ns, 4, none⟩ = some (.string m.ho) := MID.out.span 4 _ rfl
      have s5 : w1.cell? ⟨ns, 5, none⟩ = some (.int .i64 m.st) := MID.out.span 5 _ rfl
      have s6 : w1.cell? ⟨ns, 6, none⟩ = some (.int .i64 m.du) := MID.out.span 6 _ rfl
      have s7 : w1.cell? ⟨ns, 7, none⟩ = some (.string m.no) := MID.out.span 7 _ rfl
      go_wp2_with fail
      refine (X.out _).mono ?_
      rintro e w2 ⟨rfl, k2⟩
      have M2 := Lib.hid (MID.out.keptF k2)
      have K2 := Lib.hid (tt K1.out k2)
      clear k2 s0 s1 s2 s3 s4 s5 s6 s7 MID K1 C X
      cases late with
      | true =>
        go_wp2
        go_roundg (n - i - 1)
        case measure => have := JI.out; omega
        case rel =>
          have e := TT.out
          rw [← DS.out, takeR, LT.out, Bool.true_or, Bool.true_or] at e
          exact ⟨i + 1, O, K, by have := JI.out; omega, by go_num, by have := OI.out; omega, K2.out, M2.out.map, M2.out.out, M2.out.cells, e⟩
      | false =>
        obtain ⟨kk, hkk⟩ : ∃ kk, keyF m.tr m.id = kk := ⟨_, rfl⟩
        have KK := Lib.hid hkk
        have c0 : w2.cell? ⟨g, 0, none⟩ = some (.string kk) := by rw [← hkk]; exact M2.out.two 0 _ rfl
        have LK := look_seen M2.out.map kk
        obtain ⟨sn, hsn⟩ : ∃ sn, decide (kk ∈ K) = sn := ⟨_, rfl⟩
        have SN := Lib.hid hsn
        rw [hsn] at LK
        clear hsn hkk
        cases sn with
        | true =>
          unfold oneN at LK
          go_wp2
          go_roundg (n - i - 1)
          case measure => have := JI.out; omega
          case rel =>
            have e := TT.out
            rw [← DS.out, takeR, LT.out, show keyS m = kk from KK.out, SN.out, Bool.or_true, Bool.true_or] at e
            exact ⟨i + 1, O, K, by have := JI.out; omega, by go_num, by have := OI.out; omega, K2.out, M2.out.map, M2.out.out, M2.out.cells, e⟩
        | false =>
          unfold oneN at LK
          have GC := Lib.hid (GG.out w2 K2.out kk)
          unfold aggC at GC
          obtain ⟨gk, hgk⟩ : ∃ gk, gb kk = gk := ⟨_, rfl⟩
          have GK := Lib.hid hgk
          rw [hgk] at GC
          clear hgk
          cases gk with
          | false =>
            go_upto_region 11 with (go_at_call 15; refine GC.out.mono ?_; rintro e w3 ⟨rfl, k3⟩)
            have M3 := fun o => (M2.out.keptF k3).keptF ((Kept.refl (fun _ => False) w3).alloc o)
            have K3 := fun o => tt K2.out (tt k3 ((Kept.refl (fun _ => False) w3).alloc o))
            generalize hW4 : w3.alloc _ = W4
            have M4 := Lib.hid (hW4 ▸ M3 _)
            have K4 := Lib.hid (hW4 ▸ K3 _)
            clear hW4 M3 K3 k3 c0 LK M2 K2 GC
            have c0 : W4.cell? ⟨g, 0, none⟩ = some (.string kk) := by rw [← KK.out]; exact M4.out.two 0 _ rfl
            have LK := look_seen M4.out.map kk
            rw [SN.out] at LK
            unfold oneN at LK
            obtain ⟨W5, hU, mU, kU⟩ := upd_seen M4.out.map SN.out
            have M5 := Lib.hid (M4.out.seen kU mU)
            have K5 := Lib.hid (show Kept (fun _ => False) w W5 from K4.out.trans kU (fun _ _ f => f) (fun q hq e => by have := HB.out; omega))
            have s0 : W5.cell? ⟨ns, 0, none⟩ = some (.int .i64 m.tr) := M5.out.span 0 _ rfl
            have s1 : W5.cell? ⟨ns, 1, none⟩ = some (.int .i64 m.id) := M5.out.span 1 _ rfl
            have s2 : W5.cell? ⟨ns, 2, none⟩ = some (.int .i64 m.pa) := M5.out.span 2 _ rfl
            have s3 : W5.cell? ⟨ns, 3, none⟩ = some (.string m.se) := M5.out.span 3 _ rfl
            have s4 : W5.cell? ⟨ns, 4, none⟩ = some (.string m.ho) := M5.out.span 4 _ rfl
            have s5 : W5.cell? ⟨ns, 5, none⟩ = some (.int .i64 m.st) := M5.out.span 5 _ rfl
            have s6 : W5.cell? ⟨ns, 6, none⟩ = some (.int .i64 m.du) := M5.out.span 6 _ rfl
            have s7 : W5.cell? ⟨ns, 7, none⟩ = some (.string m.no) := M5.out.span 7 _ rfl
            clear mU kU
            go_wp2_with (at_builtin; refine wpList_append_own _ rfl _ _ 22 rfl b 111 i0 _ 8 88 Tryz.underlying22 hi0 hz0 hz1 hz2 rfl (by decide) _ _ _ rfl (own_kept M5.out.out ((Kept.refl (fun _ => False) W5).alloc _) (fun _ _ f => f)) ⟨W5.heap.size, 0, none⟩ 1 1 m.cells rfl rfl (World.news_of_block (heap_alloc_new W5 _)) ?qa ?qb ?qc ?qd ?_)
            case qa => intro u hu; simp [Spn.cells] at hu; rcases hu with rfl | rfl | rfl | rfl | rfl | rfl | rfl | rfl <;> rfl
            case qb => unfold maxLen; have := OI.out; omega
            case qc => have := OI.out; omega
            case qd => have := K5.out.size; have := HB.out; simp; omega
            intro v' w8 hown hgrow hnil
            obtain ⟨a8, cap8, rfl⟩ := own_slice hown
            have kA : Kept (fun _ => False) W5 (W5.alloc (.cells #[.int .i64 m.tr, .int .i64 m.id, .int .i64 m.pa, .string m.se, .string m.ho, .int .i64 m.st, .int .i64 m.du, .string m.no] 111)) := (Kept.refl _ _).alloc _
            have kG := grown_kept hgrow
            have O8 := Lib.hid hown
            have T8 := Lib.hid (show ∀ j u, (cellsOfS m)[j]? = some u → w8.cell? ⟨g, j, none⟩ = some u from fun j u hu => kG.cell (kA.cell (M5.out.two j u hu) (fun f => f)) (fun e => M5.out.far g e rfl))
            have N8 := Lib.hid (show ∀ j u, (cellsOfS m)[j]? = some u → w8.cell? ((⟨g, 0, none⟩ : Addr).add j) = some u from fun j u hu => by
              cases j with
              | zero => simpa [Addr.add] using T8.out 0 u hu
              | succ j => simpa [Addr.add] using T8.out (j + 1) u hu)
            have C8 := Lib.hid (own_kept (own_kept M5.out.cells kA (fun _ _ f => f)) kG (fun q hq e => own_types M5.out.cells M5.out.out (by decide) hq e))
            have m8 := Lib.hid ((M5.out.map.kept kA (fun f => f)).kept kG (fun e => own_map M5.out.out M5.out.map e))
            have K8 := Lib.hid (show Kept (fun _ => False) w w8 from (tt K5.out kA).trans kG (fun _ _ f => f) (fun q hq e => by have := own_from M5.out.out e; have := HB.out; omega))
            clear kA kG hown hgrow hnil s0 s1 s2 s3 s4 s5 s6 s7 hU LK c0 M5 K5
            go_wp2_with (at_builtin; refine wpList_append_own _ rfl _ _ 34 rfl b 38 j0 _ 3 40 Tryz.underlying34 hj0 hy0 hy1 hy2 rfl (by decide) _ _ _ rfl C8.out ⟨g, 0, none⟩ 2 2 (cellsOfS m) rfl rfl N8.out ?qa ?qb ?qc ?qd ?_)
            case qa => intro u hu; simp [cellsOfS] at hu; rcases hu with rfl | rfl | rfl | rfl | rfl | rfl <;> rfl
            case qb => unfold maxLen; have := OI.out; omega
            case qc => have := OI.out; omega
            case qd => have := K8.out.size; have := HB.out; omega
            intro v'' w9 hown hgrow hnil
            obtain ⟨a9, cap9, rfl⟩ := own_slice hown
            have kG := grown_kept hgrow
            have C9 := Lib.hid hown
            have O9 := Lib.hid (own_kept O8.out kG (fun q hq e => own_types O8.out C8.out (by decide) hq e))
            have m9 := Lib.hid (m8.out.kept kG (fun e => own_map C8.out m8.out e))
            have K9 := Lib.hid (show Kept (fun _ => False) w w9 from K8.out.trans kG (fun _ _ f => f) (fun q hq e => by have := own_from C8.out e; have := HB.out; omega))
            clear kG hown hgrow hnil
            go_wp2
            go_roundg (n - i - 1)
            case measure => have := JI.out; omega
            case rel =>
              have e := TT.out
              rw [← DS.out, takeR, LT.out, show keyS m = kk from KK.out, SN.out, show old kk = false from by rw [← HO.out]; simp [GK.out]] at e
              simp only [Bool.or_self] at e
              have l1 : (O ++ [m]).length = O.length + 1 := by simp
              have l2 : cellsS (O ++ [m]) = cellsS O ++ m.cells := by rw [cellsS_append]; simp [cellsS]
              have l3 : cellsT (O ++ [m]) = cellsT O ++ cellsOfS m := by rw [cellsT_append]; simp [cellsT]
              have l4 : 2 * (O ++ [m]).length = 2 * O.length + 2 := by rw [l1]; omega
              exact ⟨i + 1, O ++ [m], K ++ [kk], by have := JI.out; omega, by go_num, by have := OI.out; omega, K9.out, m9.out, by rw [l1, l2]; exact O9.out, by rw [l4, l3]; exact C9.out, by rw [List.append_assoc]; exact e⟩
          | true =>
            obtain ⟨dk, hdk⟩ : ∃ dk, dr (gc kk) = dk := ⟨_, rfl⟩
            have DK := Lib.hid hdk
            have DC := Lib.hid (fun w' => DD.out w' kk GK.out)
            rw [hdk] at DC
            unfold aggC at DC
            clear hdk
            cases dk with
            | false =>
              go_wp2_with (first | (go_at_call 15; refine GC.out.mono ?_; rintro e w3 ⟨rfl, k3⟩) | (go_at_call 116; refine (DC.out _).mono ?_; rintro e w4 ⟨rfl, k4⟩))
              have kq := tt k3 (tt ((Kept.refl (fun _ => False) w3).alloc _) k4)
              have M4 := M2.out.keptF kq
              have K4 := tt K2.out kq
              go_roundg (n - i - 1)
              case measure => have := JI.out; omega
              case rel =>
                have e := TT.out
                rw [← DS.out, takeR, LT.out, show keyS m = kk from KK.out, SN.out, show old kk = true from by rw [← HO.out]; simp [GK.out, DK.out], Bool.or_true] at e
                exact ⟨i + 1, O, K, by have := JI.out; omega, by go_num, by have := OI.out; omega, K4, M4.map, M4.out, M4.cells, e⟩
            | true =>
              go_upto_region 11 with (first | (go_at_call 15; refine GC.out.mono ?_; rintro e w3 ⟨rfl, k3⟩) | (go_at_call 116; refine (DC.out _).mono ?_; rintro e w4 ⟨rfl, k4⟩))
              have kq := tt k3 (tt ((Kept.refl (fun _ => False) w3).alloc _) k4)
              have M4 := Lib.hid (M2.out.keptF kq)
              have K4 := Lib.hid (tt K2.out kq)
              clear kq k3 k4 c0 LK M2 K2 GC DC
              have c0 : w4.cell? ⟨g, 0, none⟩ = some (.string kk) := by rw [← KK.out]; exact M4.out.two 0 _ rfl
              have LK := look_seen M4.out.map kk
              rw [SN.out] at LK
              unfold oneN at LK
              obtain ⟨W5, hU, mU, kU⟩ := upd_seen M4.out.map SN.out
              have M5 := Lib.hid (M4.out.seen kU mU)
              have K5 := Lib.hid (show Kept (fun _ => False) w W5 from K4.out.trans kU (fun _ _ f => f) (fun q hq e => by have := HB.out; omega))
              have s0 : W5.cell? ⟨ns, 0, none⟩ = some (.int .i64 m.tr) := M5.out.span 0 _ rfl
              have s1 : W5.cell? ⟨ns, 1, none⟩ = some (.int .i64 m.id) := M5.out.span 1 _ rfl
              have s2 : W5.cell? ⟨ns, 2, none⟩ = some (.int .i64 m.pa) := M5.out.span 2 _ rfl
              have s3 : W5.cell? ⟨ns, 3, none⟩ = some (.string m.se) := M5.out.span 3 _ rfl
              have s4 : W5.cell? ⟨ns, 4, none⟩ = some (.string m.ho) := M5.out.span 4 _ rfl
              have s5 : W5.cell? ⟨ns, 5, none⟩ = some (.int .i64 m.st) := M5.out.span 5 _ rfl
              have s6 : W5.cell? ⟨ns, 6, none⟩ = some (.int .i64 m.du) := M5.out.span 6 _ rfl
              have s7 : W5.cell? ⟨ns, 7, none⟩ = some (.string m.no) := M5.out.span 7 _ rfl
              clear mU kU
              go_wp2_with (at_builtin; refine wpList_append_own _ rfl _ _ 22 rfl b 111 i0 _ 8 88 Tryz.underlying22 hi0 hz0 hz1 hz2 rfl (by decide) _ _ _ rfl (own_kept M5.out.out ((Kept.refl (fun _ => False) W5).alloc _) (fun _ _ f => f)) ⟨W5.heap.size, 0, none⟩ 1 1 m.cells rfl rfl (World.news_of_block (heap_alloc_new W5 _)) ?qa ?qb ?qc ?qd ?_)
              case qa => intro u hu; simp [Spn.cells] at hu; rcases hu with rfl | rfl | rfl | rfl | rfl | rfl | rfl | rfl <;> rfl
              case qb => unfold maxLen; have := OI.out; omega
              case qc => have := OI.out; omega
              case qd => have := K5.out.size; have := HB.out; simp; omega
              intro v' w8 hown hgrow hnil
              obtain ⟨a8, cap8, rfl⟩ := own_slice hown
              have kA : Kept (fun _ => False) W5 (W5.alloc (.cells #[.int .i64 m.tr, .int .i64 m.id, .int .i64 m.pa, .string m.se, .string m.ho, .int .i64 m.st, .int .i64 m.du, .string m.no] 111)) := (Kept.refl _ _).alloc _
              have kG := grown_kept hgrow
              have O8 := Lib.hid hown
              have T8 := Lib.hid (show ∀ j u, (cellsOfS m)[j]? = some u → w8.cell? ⟨g, j, none⟩ = some u from fun j u hu => kG.cell (kA.cell (M5.out.two j u hu) (fun f => f)) (fun e => M5.out.far g e rfl))
              have N8 := Lib.hid (show ∀ j u, (cellsOfS m)[j]? = some u → w8.cell? ((⟨g, 0, none⟩ : Addr).add j) = some u from fun j u hu => by
                cases j with
                | zero => simpa [Addr.add] using T8.out 0 u hu
                | succ j => simpa [Addr.add] using T8.out (j + 1) u hu)
              have C8 := Lib.hid (own_kept (own_kept M5.out.cells kA (fun _ _ f => f)) kG (fun q hq e => own_types M5.out.cells M5.out.out (by decide) hq e))
              have m8 := Lib.hid ((M5.out.map.kept kA (fun f => f)).kept kG (fun e => own_map M5.out.out M5.out.map e))
              have K8 := Lib.hid (show Kept (fun _ => False) w w8 from (tt K5.out kA).trans kG (fun _ _ f => f) (fun q hq e => by have := own_from M5.out.out e; have := HB.out; omega))
              clear kA kG hown hgrow hnil s0 s1 s2 s3 s4 s5 s6 s7 hU LK c0 M5 K5
              go_wp2_with (at_builtin; refine wpList_append_own _ rfl _ _ 34 rfl b 38 j0 _ 3 40 Tryz.underlying34 hj0 hy0 hy1 hy2 rfl (by decide) _ _ _ rfl C8.out ⟨g, 0, none⟩ 2 2 (cellsOfS m) rfl rfl N8.out ?qa ?qb ?qc ?qd ?_)
              case qa => intro u hu; simp [cellsOfS] at hu; rcases hu with rfl | rfl | rfl | rfl | rfl | rfl <;> rfl
              case qb => unfold maxLen; have := OI.out; omega
              case qc => have := OI.out; omega
              case qd => have := K8.out.size; have := HB.out; omega
              intro v'' w9 hown hgrow hnil
              obtain ⟨a9, cap9, rfl⟩ := own_slice hown
              have kG := grown_kept hgrow
              have C9 := Lib.hid hown
              have O9 := Lib.hid (own_kept O8.out kG (fun q hq e => own_types O8.out C8.out (by decide) hq e))
              have m9 := Lib.hid (m8.out.kept kG (fun e => own_map C8.out m8.out e))
              have K9 := Lib.hid (show Kept (fun _ => False) w w9 from K8.out.trans kG (fun _ _ f => f) (fun q hq e => by have := own_from C8.out e; have := HB.out; omega))
              clear kG hown hgrow hnil
              go_wp2
              go_roundg (n - i - 1)
              case measure => have := JI.out; omega
              case rel =>
                have e := TT.out
                rw [← DS.out, takeR, LT.out, show keyS m = kk from KK.out, SN.out, show old kk = false from by rw [← HO.out]; simp [GK.out, DK.out]] at e
                simp only [Bool.or_self] at e
                have l1 : (O ++ [m]).length = O.length + 1 := by simp
                have l2 : cellsS (O ++ [m]) = cellsS O ++ m.cells := by rw [cellsS_append]; simp [cellsS]
                have l3 : cellsT (O ++ [m]) = cellsT O ++ cellsOfS m := by rw [cellsT_append]; simp [cellsT]
                have l4 : 2 * (O ++ [m]).length = 2 * O.length + 2 := by rw [l1]; omega
                exact ⟨i + 1, O ++ [m], K ++ [kk], by have := JI.out; omega, by go_num, by have := OI.out; omega, K9.out, m9.out, by rw [l1, l2]; exact O9.out, by rw [l4, l3]; exact C9.out, by rw [List.append_assoc]; exact e⟩
    · have e3 : ¬ (i : Int) < (n : Int) := by omega
      go_wp2
      go_ret2
      have hin : i = n := by have := JI.out; omega
      have e : T = O := by
        have h := TT.out
        rw [hin, ← HN.out, List.drop_length] at h
        rw [← h]
        simp [takeR]
      rw [e]
      exact ⟨_, _, rfl, OO.out, OC.out, KW.out⟩
end Go.Proofs.YthkcicilmhpfjaaGreatDoor

/- Whether a list of spans is beyond; whether a list of one act of the repository's statements is. -/
namespace Go.Proofs.YthkcicilmhpfjaaGreatDoor
open Go.RowKit

def bey9 (L : List Spn) (mx : Int) : Bool := decide (mx < (L.length : Int)) || L.any beyS
theorem any_at {L : List Spn} {i : Nat} {m : Spn} (h : L[i]? = some m) (hb : beyS m = true) : L.any beyS = true := List.any_eq_true.2 ⟨m, List.mem_of_getElem? h, hb⟩
theorem any_not {L : List Spn} (h : ∀ (j : Nat) (m : Spn), L[j]? = some m → beyS m = false) : L.any beyS = false := by
  rw [List.any_eq_false]
  intro m hm
  obtain ⟨j, hj⟩ := List.getElem?_of_mem hm
  simp [h j m hj]
set_option maxHeartbeats 4000000 in
set_option maxRecDepth 100000 in
theorem beyond9 (mx : Int) {w : World} {v : Value} {L : List Spn} (h : ReadsS w v L) (hl : L.length ≤ 9223372036854775807) (hfit : ∀ y ∈ L, y.se.size ≤ 9223372036854775807 ∧ y.ho.size ≤ 9223372036854775807 ∧ y.no.size ≤ 9223372036854775807) :
    Calls Tryz.prog 9 #[v, .int .i64 mx] w fun e w' => e = .returned (.bool (bey9 L mx)) ∧ w = w' := by
  obtain ⟨ao, cap, rfl, h⟩ := h
  have HR := Lib.hid h
  clear h
  by_cases h20 : (L.length : Int) ≤ mx
  · have e1 : ¬ mx < (L.length : Int) := by omega
    have E9 : bey9 L mx = L.any beyS := by unfold bey9; simp [e1]
    rw [E9]
    obtain ⟨A, hA⟩ : ∃ A, L.any beyS = A := ⟨_, rfl⟩
    rw [hA]
    have HA := Lib.hid hA
    clear hA E9
    go_enter Tryz.func9, Tryz.ntmps9
    go_wp2
    go_loopg [5] L.length (fun gh t wr => ∃ k : Nat, k + gh = L.length ∧ t = .int .i64 k ∧ wr = w ∧ ∀ (j : Nat) (m : Spn), j < k → L[j]? = some m → beyS m = false)
    case atStart => exact ⟨0, by omega, rfl, rfl, fun j m hj => absurd hj (Nat.not_lt_zero j)⟩
    case round =>
      obtain ⟨k, hk, rfl, rfl, hno⟩ := hrel
      have NO := Lib.hid hno
      have hk1 : k ≤ L.length := by omega
      have JK := Lib.hid hk
      clear hk hno
      by_cases hlt : k < L.length
      · rcases HR.out with h0 | ⟨g, o, rfl, hc⟩
        · rw [h0] at hlt; simp at hlt
        obtain ⟨m, hm⟩ : ∃ m, L[k]? = some m := ⟨_, List.getElem?_eq_getElem hlt⟩
        obtain ⟨_, _, _, c3, c4, _, _, c7⟩ := ReadsS.at hc hm
        have f := hfit m (List.mem_of_getElem? hm)
        have HM := Lib.hid hm
        have i1 : (0 : Int) ≤ (k : Int) := by omega
        have i2 : (k : Int) < (L.length : Int) := by omega
        have f1 := f.1; have f2 := f.2.1; have f3 := f.2.2
        clear hc hm f
        by_cases g1 : (100 : Int) < (m.se.size : Int)
        · go_wp2
          go_ret
          exact ⟨by rw [← HA.out, any_at HM.out (by unfold beyS; simp [g1])]; rfl, rfl⟩
        · by_cases g2 : (100 : Int) < (m.ho.size : Int)
          · go_wp2
            go_ret
            exact ⟨by rw [← HA.out, any_at HM.out (by unfold beyS; simp [g2])]; rfl, rfl⟩
          · by_cases g3 : (100 : Int) < (m.no.size : Int)
            · go_wp2
              go_ret
              exact ⟨by rw [← HA.out, any_at HM.out (by unfold beyS; simp [g3])]; rfl, rfl⟩
            · go_wp2
              go_roundg (L.length - k - 1)
              case measure => have := JK.out; omega
              case rel =>
                refine ⟨k + 1, by omega, by go_num, rfl, fun j x hj hx => ?_⟩
                by_cases e : j = k
                · subst e
                  rw [HM.out] at hx
                  cases hx
                  unfold beyS
                  simp [g1, g2, g3]
                · exact NO.out j x (by omega) hx
      · have e3 : ¬ (k : Int) < (L.length : Int) := by omega
        go_wp2
        go_ret
        refine ⟨?_, rfl⟩
        rw [← HA.out, any_not (fun j m hm => NO.out j m (by have := (List.getElem?_eq_some_iff.1 hm).1; omega) hm)]
        rfl
  · have e1 : mx < (L.length : Int) := by omega
    have E9 : bey9 L mx = true := by unfold bey9; simp [e1]
    rw [E9]
    go_enter Tryz.func9, Tryz.ntmps9
    go_wp2
    go_ret
    exact ⟨rfl, rfl⟩

/-- An act: its kind, its batch, whether it is odd, its data, its number, what is kept. -/
structure Ac where
  ki : Int
  ho : Int
  fi : Int
  sp : Value
  od : Bool
  da : ByteArray
  nn : Int
  ka : Option Addr
  kl : Nat
  kc : Nat
def Ac.cells (m : Ac) : List Value := [.int .u8 m.ki, .int .i64 m.ho, .int .i64 m.fi, m.sp, .bool m.od, .string m.da, .int .u8 m.nn, .slice m.ka m.kl m.kc]
def beyA (m : Ac) (L : List Spn) : Bool := bey9 L 20 || decide ((300 : Int) < (m.da.size : Int)) || decide ((20 : Int) < (m.kl : Int))
set_option maxHeartbeats 1000000 in
set_option maxRecDepth 100000 in
theorem beyond34 {w : World} {m : Ac} {L : List Spn} {g o cap : Nat} (hc : ∀ j u, m.cells[j]? = some u → w.cell? ⟨g, o + j, none⟩ = some u) (hr : ReadsS w m.sp L) (hl : L.length ≤ 9223372036854775807) (hfit : ∀ y ∈ L, y.se.size ≤ 9223372036854775807 ∧ y.ho.size ≤ 9223372036854775807 ∧ y.no.size ≤ 9223372036854775807) :
    Calls Tryz.prog 34 #[.slice (some ⟨g, o, none⟩) 1 cap, .int .i64 1] w fun e w' => e = .returned (.bool (beyA m L)) ∧ w = w' := by
  have C := Lib.hid (beyond9 20 hr hl hfit)
  have c3 : w.cell? ⟨g, o + 1 + 2, none⟩ = some m.sp := hc 3 _ rfl
  have c5 := hc 5 _ rfl
  have c7 := hc 7 _ rfl
  clear hc hr hl hfit
  unfold beyA
  obtain ⟨B, hB⟩ : ∃ B, bey9 L 20 = B := ⟨_, rfl⟩
  rw [hB] at C ⊢
  clear hB
  cases B
  · by_cases g1 : (300 : Int) < (m.da.size : Int)
    · go_enter Tryz.func34, Tryz.ntmps34
      go_wp2
      apply wp_loop_once
      go_wp2_with (go_at_call 9; refine C.out.mono ?_; rintro e w4 ⟨rfl, rfl⟩)
      go_ret
      exact ⟨by simp [g1], rfl⟩
    · by_cases g2 : (20 : Int) < (m.kl : Int)
      · go_enter Tryz.func34, Tryz.ntmps34
        go_wp2
        apply wp_loop_once
        go_wp2_with (go_at_call 9; refine C.out.mono ?_; rintro e w4 ⟨rfl, rfl⟩)
        go_ret
        exact ⟨by simp [g2], rfl⟩
      · go_enter Tryz.func34, Tryz.ntmps34
        go_wp2
        refine wp_loop_rounds 2 ?_
        rw [rounds_succ]
        go_wp2_with (go_at_call 9; refine C.out.mono ?_; rintro e w4 ⟨rfl, rfl⟩)
        rw [rounds_succ]
        go_wp2
        go_ret
        exact ⟨by simp [g1, g2], rfl⟩
  · go_enter Tryz.func34, Tryz.ntmps34
    go_wp2
    apply wp_loop_once
    go_wp2_with (go_at_call 9; refine C.out.mono ?_; rintro e w4 ⟨rfl, rfl⟩)
    go_ret
    exact ⟨by simp, rfl⟩
end Go.Proofs.YthkcicilmhpfjaaGreatDoor

/- posts.EncodeBatch of any batch. -/
namespace Go.Proofs.YthkcicilmhpfjaaGreatDoor
open Go.RowKit Go.Lib

def hostB (n : Int) : Bool := decide (0 ≤ n) && decide (n < 4)
def recB (n : Int) : Bool := decide (0 ≤ n) && decide (n ≤ 2147483647)
theorem host_all (n : Int) (w : World) : Calls Tryz.prog 216 #[.int .i64 n] w fun e w' => e = .returned (.bool (hostB n)) ∧ w' = w := by
  unfold hostB
  by_cases h0 : 0 ≤ n
  · by_cases h1 : n < 4
    · go_enter Tryz.func216, Tryz.ntmps216
      go_wp2
      go_ret
      exact ⟨by simp [h0, h1], rfl⟩
    · go_enter Tryz.func216, Tryz.ntmps216
      go_wp2
      go_ret
      exact ⟨by simp [h1], rfl⟩
  · go_enter Tryz.func216, Tryz.ntmps216
    go_wp2
    go_ret
    exact ⟨by simp; omega, rfl⟩
theorem rec_all (n : Int) (w : World) : Calls Tryz.prog 217 #[.int .i64 n] w fun e w' => e = .returned (.bool (recB n)) ∧ w' = w := by
  unfold recB
  by_cases h0 : 0 ≤ n
  · by_cases h1 : n ≤ 2147483647
    · go_enter Tryz.func217, Tryz.ntmps217
      go_wp2
      go_ret
      exact ⟨by simp [h0, h1], rfl⟩
    · go_enter Tryz.func217, Tryz.ntmps217
      go_wp2
      go_ret
      exact ⟨by simp [h1], rfl⟩
  · go_enter Tryz.func217, Tryz.ntmps217
    go_wp2
    go_ret
    exact ⟨by simp; omega, rfl⟩

set_option maxHeartbeats 1000000 in
set_option maxRecDepth 100000 in
theorem puts3 {x : ByteArray} {a b c : Int} {g o cap : Nat} {w : World} (hx : x.size ≤ 1000) (ha : a ≤ 9223372036854775807) (hb : b ≤ 9223372036854775807) (hc : c ≤ 9223372036854775807)
    (c0 : w.cell? ⟨g, o, none⟩ = some (.int .i64 a)) (c1 : w.cell? ⟨g, o + 1, none⟩ = some (.int .i64 b)) (c2 : w.cell? ⟨g, o + 2, none⟩ = some (.int .i64 c)) :
    Calls Tryz.prog 218 #[.string x, .slice (some ⟨g, o, none⟩) 3 cap] w fun e w' => e = .returned (.string (x ++ putF a ++ putF b ++ putF c)) ∧ Kept (fun _ => False) w w' := by
  have P0 := Lib.hid (fun w => put_all a w ha)
  have P1 := Lib.hid (fun w => put_all b w hb)
  have P2 := Lib.hid (fun w => put_all c w hc)
  have tt : ∀ {a b c : World}, Kept (fun _ => False) a b → Kept (fun _ => False) b c → Kept (fun _ => False) a c := fun h k => h.trans k (fun _ _ h => h) (fun _ _ h => h)
  have z0 := putF_size a
  have z1 := putF_size b
  have z2 := putF_size c
  obtain ⟨A, hA⟩ : ∃ A, putF a = A := ⟨_, rfl⟩
  obtain ⟨B, hB⟩ : ∃ B, putF b = B := ⟨_, rfl⟩
  obtain ⟨D, hD⟩ : ∃ D, putF c = D := ⟨_, rfl⟩
  rw [hA] at P0 z0 ⊢
  rw [hB] at P1 z1 ⊢
  rw [hD] at P2 z2 ⊢
  clear hA hB hD
  go_enter Tryz.func218, Tryz.ntmps218
  go_wp2
  refine wp_loop_rounds 4 ?_
  rw [rounds_succ]
  go_wp2_with (go_at_call 161; refine (P0.out _).mono ?_; rintro e w1 ⟨rfl, k1⟩; have c1 := k1.cell c1 (fun f => f); have c2 := k1.cell c2 (fun f => f); have K1 := Lib.hid k1; clear k1)
  rw [rounds_succ]
  go_wp2_with (go_at_call 161; refine (P1.out _).mono ?_; rintro e w2 ⟨rfl, k2⟩; have c2 := k2.cell c2 (fun f => f); have K2 := Lib.hid (tt K1.out k2); clear k2)
  rw [rounds_succ]
  go_wp2_with (go_at_call 161; refine (P2.out _).mono ?_; rintro e w3 ⟨rfl, k3⟩; have K3 := Lib.hid (tt K2.out k3); clear k3)
  rw [rounds_succ]
  go_wp2
  go_ret
  exact ⟨rfl, K3.out⟩

theorem encF_size {m : Spn} (h : chkB m = true) : (encF m).size ≤ 152 := by
  have g := h
  unfold chkB at g
  simp only [Bool.and_eq_true, decide_eq_true_eq] at g
  obtain ⟨⟨⟨⟨⟨⟨⟨_, _⟩, _⟩, _⟩, _⟩, h5⟩, h6⟩, h7⟩ := g
  have nm : ∀ {s : ByteArray}, nameB s = true → s.size ≤ 12 := fun {s} h => by
    unfold nameB at h
    simp only [Bool.and_eq_true, decide_eq_true_eq] at h
    exact h.1.2
  have q := accT_length m (fun j => by
    match j with
    | 0 => show m.se.size ≤ 24; have := nm h5; omega
    | 1 => show m.ho.size ≤ 24; have := nm h6; omega
    | j + 2 => show m.no.size ≤ 24; omega) 3
  unfold encF
  show (accT m 3).toArray.size ≤ 152
  simpa using q
/-- The bytes of so many spans, each with its length ahead, behind what is there. -/
def accB (x : ByteArray) (L : List Spn) : Nat → ByteArray
  | 0 => x
  | i + 1 => accB x L i ++ ptxt (encF (L.getD i default))
def headB (ho fi : Int) (n : Nat) : ByteArray := ⟨#[66]⟩ ++ putF ho ++ putF fi ++ putF n
def batB (ho fi : Int) (L : List Spn) : Bool := hostB ho && recB fi && recB (fi + L.length) && decide (L.length ≠ 0) && decide (L.length ≤ 8) && L.all chkB
def batR (ho fi : Int) (L : List Spn) : ByteArray := match batB ho fi L with | true => accB (headB ho fi L.length) L L.length | false => .empty

set_option maxHeartbeats 4000000 in
set_option maxRecDepth 100000 in
theorem batch_all {w : World} {ho fi : Int} {v : Value} {L : List Spn} (hho : ho ≤ 9223372036854775807) (hr : ReadsS w v L) (hl : L.length ≤ 20) (hfit : ∀ y ∈ L, y.se.size ≤ 9223372036854775807 ∧ y.ho.size ≤ 9223372036854775807 ∧ y.no.size ≤ 9223372036854775807) :
    Calls Tryz.prog 120 #[.agg #[.int .i64 ho, .int .i64 fi, v]] w fun e w' => e = .returned (.tuple #[.string (batR ho fi L), .int .i64 (errN (batB ho fi L))]) ∧ Kept (fun _ => False) w w' := by
  obtain ⟨ao, cap, rfl, h⟩ := hr
  have HR := Lib.hid h
  have FIT := Lib.hid hfit
  clear h hfit
  have tt : ∀ {a b c : World}, Kept (fun _ => False) a b → Kept (fun _ => False) b c → Kept (fun _ => False) a c := fun h k => h.trans k (fun _ _ h => h) (fun _ _ h => h)
  obtain ⟨n, hn⟩ : ∃ n, L.length = n := ⟨_, rfl⟩
  have BE : batB ho fi L = (hostB ho && recB fi && recB (fi + n) && decide (n ≠ 0) && decide (n ≤ 8) && L.all chkB) := by unfold batB; rw [hn]
  rw [hn] at hl ⊢
  have HN := Lib.hid hn
  clear hn
  have C0 := Lib.hid (host_all ho)
  have C1 := Lib.hid (rec_all fi)
  have C2 := Lib.hid (rec_all (fi + n))
  cases h0 : hostB ho with
  | false =>
    have e : batB ho fi L = false := by rw [BE]; simp [h0]
    unfold batR; rw [e]; clear e BE; rw [h0] at C0
    go_enter Tryz.func120, Tryz.ntmps120
    go_wp2_with (go_at_call 216; refine (C0.out _).mono ?_; rintro e w1 ⟨rfl, rfl⟩)
    go_ret2
    exact ⟨rfl, (Kept.refl _ _).alloc _⟩
  | true =>
    cases h1 : recB fi with
    | false =>
      have e : batB ho fi L = false := by rw [BE]; simp [h1]
      unfold batR; rw [e]; clear e BE; rw [h0] at C0; rw [h1] at C1
      go_enter Tryz.func120, Tryz.ntmps120
      go_wp2_with (first | (go_at_call 216; refine (C0.out _).mono ?_; rintro e w1 ⟨rfl, rfl⟩) | (go_at_call 217; refine (C1.out _).mono ?_; rintro e w1 ⟨rfl, rfl⟩))
      go_ret2
      exact ⟨rfl, (Kept.refl _ _).alloc _⟩
    | true =>
      have hfi : 0 ≤ fi ∧ fi ≤ 2147483647 := by unfold recB at h1; simpa using h1
      obtain ⟨f0, f1⟩ := hfi
      cases h2 : recB (fi + n) with
      | false =>
        have e : batB ho fi L = false := by rw [BE]; simp [h2]
        unfold batR; rw [e]; clear e BE; rw [h0] at C0; rw [h1] at C1; rw [h2] at C2
        go_enter Tryz.func120, Tryz.ntmps120
        go_wp2_with (first | (go_at_call 216; refine (C0.out _).mono ?_; rintro e w1 ⟨rfl, rfl⟩) | (go_at_call 217; with_reducible refine (C1.out _).mono ?_; rintro e w1 ⟨rfl, rfl⟩) | (go_at_call 217; with_reducible refine (C2.out _).mono ?_; rintro e w1 ⟨rfl, rfl⟩))
        go_ret2
        exact ⟨rfl, (Kept.refl _ _).alloc _⟩
      | true =>
        rw [h0] at C0; rw [h1] at C1; rw [h2] at C2
        by_cases g0 : n = 0
        · have e : batB ho fi L = false := by rw [BE]; simp [g0]
          unfold batR; rw [e]; clear e BE
          have g0' : (n : Int) = 0 := by omega
          clear g0
          go_enter Tryz.func120, Tryz.ntmps120
          go_wp2_with (first | (go_at_call 216; refine (C0.out _).mono ?_; rintro e w1 ⟨rfl, rfl⟩) | (go_at_call 217; with_reducible refine (C1.out _).mono ?_; rintro e w1 ⟨rfl, rfl⟩) | (go_at_call 217; with_reducible refine (C2.out _).mono ?_; rintro e w1 ⟨rfl, rfl⟩))
          go_ret2
          exact ⟨rfl, (Kept.refl _ _).alloc _⟩
        · by_cases g8 : (8 : Int) < (n : Int)
          · have e : batB ho fi L = false := by rw [BE]; simp; intros; omega
            unfold batR; rw [e]; clear e BE
            have g0' : ¬ (n : Int) = 0 := by omega
            clear g0
            go_enter Tryz.func120, Tryz.ntmps120
            go_wp2_with (first | (go_at_call 216; refine (C0.out _).mono ?_; rintro e w1 ⟨rfl, rfl⟩) | (go_at_call 217; with_reducible refine (C1.out _).mono ?_; rintro e w1 ⟨rfl, rfl⟩) | (go_at_call 217; with_reducible refine (C2.out _).mono ?_; rintro e w1 ⟨rfl, rfl⟩))
            go_ret2
            exact ⟨rfl, (Kept.refl _ _).alloc _⟩
          · have g0' : ((n : Int) == 0) = false := by simp; omega
            have g8' : decide ((8 : Int) < (n : Int)) = false := by simpa using g8
            have HF := Lib.hid h0
            have h8 : n ≤ 8 := by omega
            have h4 : ho < 4 := by unfold hostB at h0; simp at h0; omega
            have hh0 : 0 ≤ ho := by unfold hostB at h0; simp at h0; omega
            have BE2 : batB ho fi L = L.all chkB := by rw [BE, h0, h1, h2]; simp; intros; omega
            have BR := Lib.hid BE2
            clear BE2 BE g0 h0 h1 h2
            obtain ⟨hd, hhd⟩ : ∃ hd, headB ho fi n = hd := ⟨_, rfl⟩
            have zd : hd.size ≤ 31 := by
              rw [← hhd]
              unfold headB
              simp only [ByteArray.size_append]
              have := putF_size ho
              have := putF_size fi
              have := putF_size n
              have : (ByteArray.mk #[66]).size = 1 := rfl
              omega
            have HD := Lib.hid hhd
            clear hhd
            have RT : batB ho fi L = true → batR ho fi L = accB hd L n := fun h => by unfold batR; rw [h, HN.out, HD.out]
            have RF : batB ho fi L = false → batR ho fi L = .empty := fun h => by unfold batR; rw [h]
            obtain ⟨rr, hrr⟩ : ∃ rr, batR ho fi L = rr := ⟨_, rfl⟩
            obtain ⟨bb, hbb⟩ : ∃ bb, batB ho fi L = bb := ⟨_, rfl⟩
            rw [hrr] at RT RF ⊢
            rw [hbb] at RT RF BR ⊢
            have RT := Lib.hid RT
            have RF := Lib.hid RF
            clear hrr hbb
            go_enter Tryz.func120, Tryz.ntmps120
            go_wp2_with (first | (go_at_call 216; refine (C0.out _).mono ?_; rintro e w1 ⟨rfl, rfl⟩) | (go_at_call 217; with_reducible refine (C1.out _).mono ?_; rintro e w1 ⟨rfl, rfl⟩) | (go_at_call 217; with_reducible refine (C2.out _).mono ?_; rintro e w1 ⟨rfl, rfl⟩) | (go_at_call 218; refine (puts3 (a := ho) (b := fi) (c := n) (by show 1 ≤ 1000; omega) (by omega) (by omega) (by omega) (by simp) (by simp) (by simp)).mono ?_; rintro e w2 ⟨rfl, k2⟩; have c1 := k2.cell (a := ⟨w.heap.size, 2, none⟩) (v := .slice ao n cap) (by simp) (fun f => f); have K2 := Lib.hid (tt ((Kept.refl _ w).alloc _) (tt ((Kept.refl _ _).alloc _) k2)); clear k2))
            go_loopg [53, 4] n (fun gh t s wr => ∃ k : Nat, k + gh = n ∧ t = .int .i64 k ∧ s = .string (accB hd L k) ∧ (accB hd L k).size ≤ 31 + 200 * k ∧ Kept (fun _ => False) w wr ∧ ∀ j, j < k → chkB (L.getD j default) = true)
            case atStart => exact ⟨0, by omega, rfl, by rw [accB, ← HD.out]; rfl, by rw [accB]; omega, K2.out, fun j hj => absurd hj (Nat.not_lt_zero j)⟩
            case round =>
              obtain ⟨k, hk, rfl, rfl, hz, hK, hno⟩ := hrel
              have NO := Lib.hid hno
              have KW := Lib.hid hK
              have hk1 : k ≤ n := by omega
              have JK := Lib.hid hk
              clear hk hno hK
              obtain ⟨ac, hac⟩ : ∃ ac, accB hd L k = ac := ⟨_, rfl⟩
              rw [hac] at hz ⊢
              have AC := Lib.hid hac
              clear hac
              by_cases hlt : k < n
              · rcases HR.out with e0 | ⟨g, o, rfl, hc⟩
                · have := HN.out; rw [e0] at this; simp at this; omega
                obtain ⟨m, hm⟩ : ∃ m, L[k]? = some m := ⟨_, List.getElem?_eq_getElem (by rw [HN.out]; exact hlt)⟩
                have hgd : L.getD k default = m := by rw [List.getD_eq_getElem?_getD, hm]; rfl
                obtain ⟨c0, c1', c2, c3, c4, c5, c6, c7⟩ := ReadsS.at (fun j u hu => KW.out.cell (hc j u hu) (fun f => f)) hm
                have f := FIT.out m (List.mem_of_getElem? hm)
                have EN := Lib.hid (enc_all m f.1 f.2.1 f.2.2)
                have GD := Lib.hid hgd
                have MEM := Lib.hid (List.mem_of_getElem? hm)
                have i1 : (0 : Int) ≤ (k : Int) := by omega
                have i2 : (k : Int) < (n : Int) := by omega
                clear hc hm f hgd
                unfold encR aggS at EN
                cases hB : chkB m with
                | false =>
                  rw [hB] at EN
                  have b0 : bb = false := by
                    rw [BR.out, List.all_eq_false]
                    exact ⟨m, MEM.out, by rw [hB]; simp⟩
                  go_wp2_with (go_at_call 219; refine (EN.out _).mono ?_; rintro e w3 ⟨rfl, k3⟩)
                  go_ret2
                  exact ⟨by rw [RF.out b0, b0]; rfl, tt KW.out (tt ((Kept.refl _ _).alloc _) k3)⟩
                | true =>
                  have ez := encF_size hB
                  rw [hB] at EN
                  obtain ⟨ev, hev⟩ : ∃ ev, encF m = ev := ⟨_, rfl⟩
                  rw [hev] at EN ez
                  have EV := Lib.hid hev
                  clear hev
                  have pz := ptxt_size ev
                  go_wp2_with (first | (go_at_call 219; refine (EN.out _).mono ?_; rintro e w3 ⟨rfl, k3⟩; have K3 := Lib.hid (tt KW.out (tt ((Kept.refl _ _).alloc _) k3)); clear k3) | (go_at_call 160; refine (puttext_all ev _ (by omega)).mono ?_; rintro e w4 ⟨rfl, k4⟩; have K4 := Lib.hid (tt K3.out k4); clear k4))
                  go_roundg (n - k - 1)
                  case measure => have := JK.out; omega
                  case rel =>
                    have ea : accB hd L (k + 1) = ac ++ ptxt ev := by rw [accB, AC.out, GD.out, EV.out]
                    refine ⟨k + 1, by omega, by go_num, by rw [ea], by rw [ea, ByteArray.size_append]; omega, K4.out, fun j hj => ?_⟩
                    by_cases e : j = k
                    · subst e; rw [GD.out]; exact hB
                    · exact NO.out j (by omega)
              · have e3 : ¬ (k : Int) < (n : Int) := by omega
                obtain rfl : k = n := by omega
                have b1 : bb = true := by
                  rw [BR.out, List.all_eq_true]
                  intro m hm
                  obtain ⟨j, hj⟩ := List.getElem?_of_mem hm
                  have hjn := (List.getElem?_eq_some_iff.1 hj).1
                  rw [HN.out] at hjn
                  have := NO.out j hjn
                  rw [List.getD_eq_getElem?_getD, hj] at this
                  exact this
                go_wp2
                go_ret2
                have er : rr = ac := (RT.out b1).trans AC.out
                subst er
                subst b1
                exact ⟨by rw [AC.out]; rfl, KW.out⟩
end Go.Proofs.YthkcicilmhpfjaaGreatDoor

/- ingest.Check of any batch; ingest.Take into a store that is none. -/
namespace Go.Proofs.YthkcicilmhpfjaaGreatDoor
open Go.RowKit

def okI (ho fi : Int) (L : List Spn) : Bool := hostB ho && (decide (0 ≤ fi) && decide (fi ≤ 2147483647 - (L.length : Int)))
def lenI (L : List Spn) : Bool := decide (L.length ≠ 0) && decide (L.length ≤ 8)
def chkI (ho fi : Int) (L : List Spn) : Int := match okI ho fi L with
  | false => 2
  | true => match lenI L with
    | false => 3
    | true => errN (L.all chkB)
set_option maxHeartbeats 4000000 in
set_option maxRecDepth 100000 in
theorem check12 {w : World} {ho fi : Int} {v : Value} {L : List Spn} (hr : ReadsS w v L) (hl : L.length ≤ 20) (hfit : ∀ y ∈ L, y.se.size ≤ 9223372036854775807 ∧ y.ho.size ≤ 9223372036854775807 ∧ y.no.size ≤ 9223372036854775807) :
    Calls Tryz.prog 12 #[.agg #[.int .i64 ho, .int .i64 fi, v]] w fun e w' => e = .returned (.int .i64 (chkI ho fi L)) ∧ Kept (fun _ => False) w w' := by
  obtain ⟨ao, cap, rfl, h⟩ := hr
  have HR := Lib.hid h
  have FIT := Lib.hid hfit
  clear h hfit
  have tt : ∀ {a b c : World}, Kept (fun _ => False) a b → Kept (fun _ => False) b c → Kept (fun _ => False) a c := fun h k => h.trans k (fun _ _ h => h) (fun _ _ h => h)
  obtain ⟨n, hn⟩ : ∃ n, L.length = n := ⟨_, rfl⟩
  have OE : okI ho fi L = (hostB ho && (decide (0 ≤ fi) && decide (fi ≤ 2147483647 - (n : Int)))) := by unfold okI; rw [hn]
  have LE : lenI L = (decide (n ≠ 0) && decide (n ≤ 8)) := by unfold lenI; rw [hn]
  unfold chkI
  rw [hn] at hl ⊢
  rw [OE, LE]
  have HN := Lib.hid hn
  clear hn OE LE
  unfold hostB
  by_cases h0 : ho < 0
  · rw [show (decide (0 ≤ ho) && decide (ho < 4) && (decide (0 ≤ fi) && decide (fi ≤ 2147483647 - (n : Int)))) = false by simp; omega]
    go_enter Tryz.func12, Tryz.ntmps12
    go_wp2
    go_ret
    exact ⟨rfl, (Kept.refl _ _).alloc _⟩
  by_cases h1 : 4 ≤ ho
  · rw [show (decide (0 ≤ ho) && decide (ho < 4) && (decide (0 ≤ fi) && decide (fi ≤ 2147483647 - (n : Int)))) = false by simp; omega]
    go_enter Tryz.func12, Tryz.ntmps12
    go_wp2
    go_ret
    exact ⟨rfl, (Kept.refl _ _).alloc _⟩
  by_cases h2 : fi < 0
  · rw [show (decide (0 ≤ ho) && decide (ho < 4) && (decide (0 ≤ fi) && decide (fi ≤ 2147483647 - (n : Int)))) = false by simp; omega]
    go_enter Tryz.func12, Tryz.ntmps12
    go_wp2
    go_ret
    exact ⟨rfl, (Kept.refl _ _).alloc _⟩
  by_cases h3 : 2147483647 - (n : Int) < fi
  · rw [show (decide (0 ≤ ho) && decide (ho < 4) && (decide (0 ≤ fi) && decide (fi ≤ 2147483647 - (n : Int)))) = false by simp; omega]
    go_enter Tryz.func12, Tryz.ntmps12
    go_wp2
    go_ret
    exact ⟨rfl, (Kept.refl _ _).alloc _⟩
  rw [show (decide (0 ≤ ho) && decide (ho < 4) && (decide (0 ≤ fi) && decide (fi ≤ 2147483647 - (n : Int)))) = true by simp; omega]
  by_cases g0 : n = 0
  · rw [show (decide (n ≠ 0) && decide (n ≤ 8)) = false by simp [g0]]
    have g0' : (n : Int) = 0 := by omega
    clear g0
    go_enter Tryz.func12, Tryz.ntmps12
    go_wp2
    go_ret
    exact ⟨rfl, (Kept.refl _ _).alloc _⟩
  by_cases g8 : (8 : Int) < (n : Int)
  · rw [show (decide (n ≠ 0) && decide (n ≤ 8)) = false by simp; omega]
    have g0' : ((n : Int) == 0) = false := by simp; omega
    clear g0
    go_enter Tryz.func12, Tryz.ntmps12
    go_wp2
    go_ret
    exact ⟨rfl, (Kept.refl _ _).alloc _⟩
  rw [show (decide (n ≠ 0) && decide (n ≤ 8)) = true by simp; omega]
  have g0' : ((n : Int) == 0) = false := by simp; omega
  have g8' : decide ((8 : Int) < (n : Int)) = false := by simpa using g8
  clear g0
  obtain ⟨bb, hbb⟩ : ∃ bb, L.all chkB = bb := ⟨_, rfl⟩
  rw [hbb]
  have BB := Lib.hid hbb
  clear hbb
  go_enter Tryz.func12, Tryz.ntmps12
  go_wp2
  go_loopg [43] n (fun gh t wr => ∃ k : Nat, k + gh = n ∧ t = .int .i64 k ∧ Kept (fun _ => False) w wr ∧ ∀ j, j < k → chkB (L.getD j default) = true)
  case atStart => exact ⟨0, by omega, rfl, (Kept.refl _ _).alloc _, fun j hj => absurd hj (Nat.not_lt_zero j)⟩
  case round =>
    obtain ⟨k, hk, rfl, hK, hno⟩ := hrel
    have NO := Lib.hid hno
    have KW := Lib.hid hK
    have hk1 : k ≤ n := by omega
    have JK := Lib.hid hk
    clear hk hno hK
    by_cases hlt : k < n
    · rcases HR.out with e0 | ⟨g, o, rfl, hc⟩
      · have := HN.out; rw [e0] at this; simp at this; omega
      obtain ⟨m, hm⟩ : ∃ m, L[k]? = some m := ⟨_, List.getElem?_eq_getElem (by rw [HN.out]; exact hlt)⟩
      have hgd : L.getD k default = m := by rw [List.getD_eq_getElem?_getD, hm]; rfl
      obtain ⟨c0, c1', c2, c3, c4, c5, c6, c7⟩ := ReadsS.at (fun j u hu => KW.out.cell (hc j u hu) (fun f => f)) hm
      have f := FIT.out m (List.mem_of_getElem? hm)
      have C := Lib.hid (check_all m f.1 f.2.1 f.2.2)
      have GD := Lib.hid hgd
      have MEM := Lib.hid (List.mem_of_getElem? hm)
      have i1 : (0 : Int) ≤ (k : Int) := by omega
      have i2 : (k : Int) < (n : Int) := by omega
      clear hc hm f hgd
      unfold aggS at C
      cases hB : chkB m with
      | false =>
        rw [hB] at C
        have b0 : bb = false := by
          rw [← BB.out, List.all_eq_false]
          exact ⟨m, MEM.out, by rw [hB]; simp⟩
        go_wp2_with (go_at_call 72; refine (C.out _).mono ?_; rintro e w3 ⟨rfl, k3⟩)
        go_ret
        exact ⟨by rw [b0]; rfl, tt KW.out (tt ((Kept.refl _ _).alloc _) k3)⟩
      | true =>
        rw [hB] at C
        go_wp2_with (go_at_call 72; refine (C.out _).mono ?_; rintro e w3 ⟨rfl, k3⟩)
        go_roundg (n - k - 1)
        case measure => have := JK.out; omega
        case rel =>
          refine ⟨k + 1, by omega, by go_num, tt KW.out (tt ((Kept.refl _ _).alloc _) k3), fun j hj => ?_⟩
          by_cases e : j = k
          · subst e; rw [GD.out]; exact hB
          · exact NO.out j (by omega)
    · have e3 : ¬ (k : Int) < (n : Int) := by omega
      have b1 : bb = true := by
        rw [← BB.out, List.all_eq_true]
        intro m hm
        obtain ⟨j, hj⟩ := List.getElem?_of_mem hm
        have hjn := (List.getElem?_eq_some_iff.1 hj).1
        rw [HN.out] at hjn
        have := NO.out j (by omega)
        rw [List.getD_eq_getElem?_getD, hj] at this
        exact this
      subst b1
      go_wp2
      go_ret
      exact ⟨rfl, KW.out⟩

theorem none82 (w : World) : Calls Tryz.prog 82 #[.pointer none] w fun e w' => e = .returned (.bool true) ∧ w' = w := by
  go_enter Tryz.func82, Tryz.ntmps82
  go_wp2
  go_ret
  exact ⟨rfl, rfl⟩
theorem ask76 (w : World) : Calls Tryz.prog 76 #[.pointer none] w fun e w' => e = .returned (.int .i64 1) ∧ w' = w := by
  have C := Lib.hid (none82 w)
  go_enter Tryz.func76, Tryz.ntmps76
  go_wp2_with (go_at_call 82; refine C.out.mono ?_; rintro e w1 ⟨rfl, rfl⟩)
  go_ret
  exact ⟨rfl, rfl⟩
def noC : Ce := ⟨⟨#[]⟩, 0, ⟨#[]⟩⟩
/-- A store that is none has no cell. -/
theorem get_nil15 (k : ByteArray) (w : World) : Calls Tryz.prog 15 #[.pointer none, .string k] w fun e w' => e = .returned (.tuple #[aggC noC, .bool false]) ∧ Kept (fun _ => False) w w' := by
  have A := Lib.hid (fun w => ask76 w)
  go_enter Tryz.func15, Tryz.ntmps15
  go_wp2_with (go_at_call 76; refine (A.out _).mono ?_; rintro e w1 ⟨rfl, rfl⟩)
  refine bodyPost_ret (v := _) (by simp [results, Tryz.results15, go_sem]; try rfl) rfl ?_
  exact ⟨rfl, (Kept.refl _ _).alloc _⟩
theorem put_nil19 (v : Value) (w : World) : Calls Tryz.prog 19 #[.pointer none, v] w fun e w' => e = .returned (.int .i64 1) ∧ Kept (fun _ => False) w w' := by
  have A := Lib.hid (fun w => ask76 w)
  go_enter Tryz.func19, Tryz.ntmps19
  go_wp2_with (go_at_call 76; refine (A.out _).mono ?_; rintro e w1 ⟨rfl, rfl⟩)
  go_ret
  exact ⟨rfl, Kept.refl _ _⟩

def takeI (ho fi : Int) (L : List Spn) : Int := match decide (chkI ho fi L = 0) with | true => 1 | false => chkI ho fi L
theorem chkI_all {ho fi : Int} {L : List Spn} (h : chkI ho fi L = 0) : ∀ m ∈ L, chkB m = true := by
  unfold chkI at h
  cases h1 : okI ho fi L with
  | false => rw [h1] at h; cases h
  | true =>
    rw [h1] at h
    cases h2 : lenI L with
    | false => rw [h2] at h; cases h
    | true =>
      rw [h2] at h
      cases h3 : L.all chkB with
      | false => rw [h3] at h; cases h
      | true => exact List.all_eq_true.1 h3
set_option maxHeartbeats 4000000 in
set_option maxRecDepth 100000 in
theorem take_nil11 {w : World} {ho fi now : Int} {v : Value} {L : List Spn} (hnow : now ≤ 9223372036854775807) (hr : ReadsS w v L) (hl : L.length ≤ 20) (hfit : ∀ y ∈ L, y.se.size ≤ 9223372036854775807 ∧ y.ho.size ≤ 9223372036854775807 ∧ y.no.size ≤ 9223372036854775807) :
    Calls Tryz.prog 11 #[.pointer none, .agg #[.int .i64 ho, .int .i64 fi, v], .int .i64 now] w fun e w' => e = .returned (.tuple #[.agg #[.int .i64 0, .int .i64 0, .int .i64 0], .int .i64 0, .int .i64 (takeI ho fi L)]) ∧ Kept (fun _ => False) w w' := by
  have tt : ∀ {a b c : World}, Kept (fun _ => False) a b → Kept (fun _ => False) b c → Kept (fun _ => False) a c := fun h k => h.trans k (fun _ _ h => h) (fun _ _ h => h)
  have C := Lib.hid (fun w' (K : Kept (fun _ => False) w w') => check12 (ho := ho) (fi := fi) (hr.keptF K) hl hfit)
  have T := Lib.hid (fun (hc : ∀ m ∈ L, chkB m = true) w' (K : Kept (fun _ => False) w w') => take_rows (p := .pointer none) now (fun _ => noC) (fun _ => false) (fun _ => false) (hr.keptF K) hl hc hnow (fun w' _ k => get_nil15 k w') (fun _ _ h => by cases h))
  have CA := Lib.hid (fun h => chkI_all (ho := ho) (fi := fi) (L := L) h)
  have PU := Lib.hid put_nil19
  unfold takeI
  obtain ⟨x, hx⟩ : ∃ x, chkI ho fi L = x := ⟨_, rfl⟩
  rw [hx] at C CA ⊢
  clear hx hr hl hfit
  by_cases h0 : x = 0
  · subst h0
    rw [show decide ((0 : Int) = 0) = true from rfl]
    have hall := CA.out rfl
    have TT := Lib.hid (T.out hall)
    clear T hall
    unfold TakenAs at TT
    go_enter Tryz.func11, Tryz.ntmps11
    go_wp2_with fail
    refine (C.out _ (((Kept.refl _ _).alloc _).alloc _)).mono ?_
    rintro e w1 ⟨rfl, k1⟩
    have r0 := k1.cell (a := ⟨w.heap.size + 1, 0, none⟩) (v := .int .i64 0) (by go_simp) (fun f => f)
    have r1 := k1.cell (a := ⟨w.heap.size + 1, 1, none⟩) (v := .int .i64 0) (by go_simp) (fun f => f)
    have r2 := k1.cell (a := ⟨w.heap.size + 1, 2, none⟩) (v := .int .i64 0) (by go_simp) (fun f => f)
    have f1 : ∀ j, w1.frozen? ⟨w.heap.size + 1, j, none⟩ = false := fun j => k1.frozen (by go_simp) (by first | go_simp | (simp; done) | (simp; omega)) (fun f => f)
    have q2 := k1.cell (a := ⟨w.heap.size, 2, none⟩) (v := v) (by go_simp) (fun f => f)
    have K1 := Lib.hid (tt (((Kept.refl _ _).alloc _).alloc _) k1)
    clear k1
    go_wp2_with fail
    refine (TT.out _ K1.out).mono ?_
    rintro e w2 ⟨vo, vc, rfl, _, _, k2⟩
    have bl2 := World.block_lt_of_cell? _ _ r0
    have r0 := k2.cell r0 (fun f => f)
    have r1 := k2.cell r1 (fun f => f)
    have r2 := k2.cell r2 (fun f => f)
    have f1 : ∀ j, w2.frozen? ⟨w.heap.size + 1, j, none⟩ = false := fun j => k2.frozen (f1 j) bl2 (fun f => f)
    have K2 := Lib.hid (tt K1.out k2)
    clear k2 bl2
    go_wp2_with fail
    refine (PU.out _ _).mono ?_
    rintro e w3 ⟨rfl, k3⟩
    have bl3 := World.block_lt_of_cell? _ _ r0
    have r0 := k3.cell r0 (fun f => f)
    have r1 := k3.cell r1 (fun f => f)
    have r2 := k3.cell r2 (fun f => f)
    have f1 : ∀ j, w3.frozen? ⟨w.heap.size + 1, j, none⟩ = false := fun j => k3.frozen (f1 j) bl3 (fun f => f)
    have K3 := Lib.hid (tt K2.out k3)
    clear k3 bl3
    go_wp2
    refine bodyPost_ret (v := _) (by simp [results, Tryz.results11, go_sem, r0, r1, r2]; try rfl) rfl ?_
    refine ⟨rfl, ?_⟩
    repeat (first | exact K3.out | refine Kept.setAt (fun h => by omega) ?_)
  · rw [show decide (x = 0) = false by simpa using h0]
    have e0 : (x != 0) = true := by simpa using h0
    go_enter Tryz.func11, Tryz.ntmps11
    go_wp2_with fail
    refine (C.out _ (((Kept.refl _ _).alloc _).alloc _)).mono ?_
    rintro e w1 ⟨rfl, k1⟩
    have r0 := k1.cell (a := ⟨w.heap.size + 1, 0, none⟩) (v := .int .i64 0) (by go_simp) (fun f => f)
    have r1 := k1.cell (a := ⟨w.heap.size + 1, 1, none⟩) (v := .int .i64 0) (by go_simp) (fun f => f)
    have r2 := k1.cell (a := ⟨w.heap.size + 1, 2, none⟩) (v := .int .i64 0) (by go_simp) (fun f => f)
    have f1 : ∀ j, w1.frozen? ⟨w.heap.size + 1, j, none⟩ = false := fun j => k1.frozen (by go_simp) (by first | go_simp | (simp; done) | (simp; omega)) (fun f => f)
    have K1 := Lib.hid (tt (((Kept.refl _ _).alloc _).alloc _) k1)
    clear k1
    go_wp2
    refine bodyPost_ret (v := _) (by simp [results, Tryz.results11, go_sem, r0, r1, r2]; try rfl) rfl ?_
    refine ⟨rfl, ?_⟩
    repeat (first | exact K1.out | refine Kept.setAt (fun h => by omega) ?_)
end Go.Proofs.YthkcicilmhpfjaaGreatDoor

/- The variable that is read stays so while nothing turns. -/
namespace Go.Proofs.YthkcicilmhpfjaaGreatDoor
open Go.RowKit Go.Eng

theorem RoHeap.kept {η : Env} {w w' : World} (R : RoHeap Tryz.prog η hG w) (K : Kept (fun _ => False) w w') : RoHeap Tryz.prog η hG w' := fun n o hn => by
  obtain ⟨h1, t, cs, h2, c, fr, vs, t0, g1, g2⟩ := R n o hn
  have hl : n < w.heap.size := by
    rcases Nat.lt_or_ge n w.heap.size with h | h
    · exact h
    · rw [Array.getElem?_eq_none h] at g1; cases g1
  exact ⟨h1, t, cs, h2, c, fr, vs, t0, (K.block n hl (fun h => h)).trans g1, g2⟩

end Go.Proofs.YthkcicilmhpfjaaGreatDoor

/- The run of 22: the states between its pieces. -/
namespace Go.Proofs.YthkcicilmhpfjaaGreatDoor
open Go.Eng
noncomputable def p22 : List Code := match Tryz.f10.body with | some b => flat b [] | none => []
noncomputable def h22_0 : Heap := (.node none (.node (some (.ro 261 [.sym 1])) N N) N)
noncomputable def m22_0 : Tmps := N
noncomputable def m22_1 : Tmps := (.node (some (.bool false)) (.node (some (.ptr 7 0)) (.node none N (.node none (.node (some (.ptr 77 0)) N N) N)) (.node none (.node none (.node (some (.tup [.ptr 7 0, .ptr 77
  0])) N N) N) N)) (.node (some (.ptr 77 0)) (.node none (.node none (.node (some (.tup [.ptr 7 0, .ptr 77 0])) N N) N) N) (.node none (.node none (.node (some (.ptr 7 0)) N N) N)
  N)))
noncomputable def h22_1 : Heap := (.node none (.node (some (.ro 261 [.sym 1])) (.node none (.node (some (.cells 189 [I 1048576, I 0, .bool false, .map 6, .nilf, .nils])) N N) (.node none (.node none (.node none
  (.node (some (.cells 269 [.ptr 7 0, I 0, .bool false, I 1])) N N) N) N) (.node none N (.node none (.node (some (.cells 152 [.ptr 89 0])) N N) N)))) (.node none (.node none N
  (.node none N (.node none (.node (some (.cells 253 [.bool true, .nils])) N N) N))) (.node (some (.cells 246 [.ptr 7 0, I 0, .bool false, .slice 12 0 1 1 false, I 1, I 2, I 13]))
  N (.node none (.node none (.node (some (.cells 58 [.ptr 7 0, .ptr 13 0, .ptr 67 0, .slice 91 0 1 1 true, .map 76, I 0])) N N) N) N)))) (.node none (.node none N (.node (some
  (.cells 150 [.str [], .nils])) N (.node none (.node none (.node (some (.map [] 0)) N N) N) N))) (.node (some (.map [(.str [109], .agg [.str [2, 0, 5, 1, 2, 1, 0, 0, 0, 21, 0, 5,
  3], I 13], 1)] 2)) N N)))
noncomputable def m22_2 : Tmps := (.node (some (.bool false)) (.node (some (.ptr 7 0)) (.node (some (.ptr 129 0)) (.node none N (.node (some (.agg [I 0, I 5, .slice 128 0 2 2 false])) N N)) (.node none (.node
  (some (.ptr 77 0)) N N) (.node (some (.tup [.agg [I 0, I 5, I 7], I 2, I 0])) N N))) (.node (some (I 2)) (.node none (.node (some (.tup [.ptr 7 0, .ptr 77 0])) N N) (.node (some
  (.ptr 77 0)) N N)) (.node none (.node (some (.bool false)) N N) (.node (some (I 2)) N N)))) (.node (some (.ptr 77 0)) (.node (some (.ptr 634 0)) (.node none (.node (some (.tup
  [.ptr 7 0, .ptr 77 0])) N N) (.node (some (.tup [.agg [I 0, I 5, I 7], I 2, I 0])) N N)) (.node none (.node (some (.ptr 77 0)) N N) (.node (some (.agg [I 0, I 5, I 7])) N N)))
  (.node (some (I 0)) (.node none (.node (some (.ptr 7 0)) N N) (.node (some (.agg [I 0, I 5, .slice 128 0 2 2 false])) N N)) (.node none (.node (some (.slice 128 0 2 2 false)) N
  N) (.node (some (I 0)) N N)))))
noncomputable def h22_2 : Heap := (.node none (.node (some (.ro 261 [.sym 1])) (.node none (.node (some (.cells 189 [I 1048576, I 0, .bool false, .map 6, .nilf, .nils])) N N) (.node none (.node none (.node none
  (.node (some (.cells 269 [.ptr 7 0, I 0, .bool false, I 1])) N N) N) N) (.node none N (.node none (.node (some (.cells 152 [.ptr 89 0])) N N) N)))) (.node none (.node none
  (.node none (.node none (.node none (.node (some (.cells 24 [I 0, I 5, .slice 128 0 2 2 false])) (.node none (.node (some (.cells 254 [.slice 633 0 4 4 true])) N N) N) N) N) N)
  N) (.node none N (.node none (.node (some (.cells 253 [.bool true, .slice 513 0 1 1 false])) N N) (.node none N (.node none (.node none (.node (some (.cells 38 [.str [115, 0, 0,
  0, 0, 0, 0, 0, 3, 0, 0, 0, 0, 0, 0, 0, 1], I 1, .str [3, 1, 0, 10, 0, 1, 97, 1, 104, 0], .str [115, 0, 0, 0, 0, 0, 0, 0, 3, 0, 0, 0, 0, 0, 0, 0, 2], I 3, .str [3, 2, 1, 11, 0, 1,
   97, 1, 104, 0], .str [120, 97, 0, 104, 0, 0, 0, 0, 0, 0, 0, 0, 10, 0, 0, 0, 0, 0, 0, 0, 3, 0, 0, 0, 0, 0, 0, 0, 1], I 2, .str [], .str [120, 97, 0, 104, 0, 0, 0, 0, 0, 0, 0, 0,
  11, 0, 0, 0, 0, 0, 0, 0, 3, 0, 0, 0, 0, 0, 0, 0, 2], I 4, .str []])) N N) N) N))))) (.node (some (.cells 246 [.ptr 7 0, I 0, .bool false, .slice 12 0 1 1 false, I 1, I 2, I
  13])) N (.node none (.node none (.node (some (.cells 58 [.ptr 7 0, .ptr 13 0, .ptr 67 0, .slice 91 0 1 1 true, .map 76, I 4])) N N) N) N)))) (.node none (.node none (.node none
  (.node none (.node none (.node none (.node (some (.cells 111 [I 3, I 1, I 0, .str [97], .str [104], I 10, I 0, .str [], I 3, I 2, I 1, .str [97], .str [104], I 11, I 0, .str
  []])) N N) N) N) N) N) (.node (some (.cells 150 [.str [], .nils])) N (.node none (.node none (.node (some (.map [] 0)) N N) N) N))) (.node (some (.map [(.str [109], .agg [.str
  [2, 0, 5, 1, 2, 1, 0, 0, 0, 21, 0, 5, 3], I 13], 1), (.str [106, 49], .agg [.str [2, 0, 124, 17, 115, 0, 0, 0, 0, 0, 0, 0, 3, 0, 0, 0, 0, 0, 0, 0, 1, 1, 10, 3, 1, 0, 10, 0, 1,
  97, 1, 104, 0, 29, 120, 97, 0, 104, 0, 0, 0, 0, 0, 0, 0, 0, 10, 0, 0, 0, 0, 0, 0, 0, 3, 0, 0, 0, 0, 0, 0, 0, 1, 2, 0, 17, 115, 0, 0, 0, 0, 0, 0, 0, 3, 0, 0, 0, 0, 0, 0, 0, 2, 3,
  10, 3, 2, 1, 11, 0, 1, 97, 1, 104, 0, 29, 120, 97, 0, 104, 0, 0, 0, 0, 0, 0, 0, 0, 11, 0, 0, 0, 0, 0, 0, 0, 3, 0, 0, 0, 0, 0, 0, 0, 2, 4, 0, 134, 46, 5, 191, 3], I 132], 2)] 3))
  (.node none N (.node none N (.node none N (.node none N (.node none (.node none (.node (some (.cells 28 [I 0, I 5, I 7])) N N) N) N))))) N)))
noncomputable def m22_3 : Tmps := (.node (some (.bool false)) (.node (some (.ptr 7 0)) (.node (some (.ptr 129 0)) (.node (some (.ptr 985 0)) (.node none (.node (some (.tup [.agg [I 0, I 5, I 7], I 0, I 0])) N N)
  N) (.node (some (.agg [I 0, I 5, .slice 128 0 2 2 false])) N N)) (.node none (.node (some (.ptr 77 0)) (.node (some (.agg [I 0, I 5, I 7])) N N) N) (.node (some (.tup [.agg [I 0,
   I 5, I 7], I 2, I 0])) N N))) (.node (some (I 2)) (.node (some (I 0)) (.node (some (.tup [.ptr 7 0, .ptr 77 0])) (.node (some (.agg [I 0, I 5, .slice 128 0 2 2 false])) N N) N)
  (.node (some (.ptr 77 0)) N N)) (.node none (.node (some (.bool false)) (.node (some (I 0)) N N) N) (.node (some (I 2)) N N)))) (.node (some (.ptr 77 0)) (.node (some (.ptr 634
  0)) (.node (some (I 0)) (.node (some (.tup [.ptr 7 0, .ptr 77 0])) (.node (some (.ptr 77 0)) N N) N) (.node (some (.tup [.agg [I 0, I 5, I 7], I 2, I 0])) N N)) (.node none
  (.node (some (.ptr 77 0)) (.node (some (I 0)) N N) N) (.node (some (.agg [I 0, I 5, I 7])) N N))) (.node (some (I 0)) (.node none (.node (some (.ptr 7 0)) (.node (some (.tup
  [.agg [I 0, I 5, I 7], I 0, I 0])) N N) N) (.node (some (.agg [I 0, I 5, .slice 128 0 2 2 false])) N N)) (.node none (.node (some (.slice 128 0 2 2 false)) N N) (.node (some (I
  0)) N N)))))
noncomputable def h22_3 : Heap := (.node none (.node (some (.ro 261 [.sym 1])) (.node none (.node (some (.cells 189 [I 1048576, I 0, .bool false, .map 6, .nilf, .nils])) N N) (.node none (.node none (.node none
  (.node (some (.cells 269 [.ptr 7 0, I 0, .bool false, I 1])) N N) N) N) (.node none N (.node none (.node (some (.cells 152 [.ptr 89 0])) N N) N)))) (.node none (.node none
  (.node none (.node none (.node none (.node none (.node none (.node (some (.cells 254 [.slice 633 0 4 4 true])) N N) N) N) N) N) N) (.node none N (.node none (.node (some (.cells
  253 [.bool true, .slice 513 0 1 1 false])) N (.node none N (.node none N (.node (some (.cells 28 [I 0, I 5, I 7])) N N)))) (.node none N (.node none (.node none (.node (some
  (.cells 38 [.str [115, 0, 0, 0, 0, 0, 0, 0, 3, 0, 0, 0, 0, 0, 0, 0, 1], I 1, .str [3, 1, 0, 10, 0, 1, 97, 1, 104, 0], .str [115, 0, 0, 0, 0, 0, 0, 0, 3, 0, 0, 0, 0, 0, 0, 0, 2],
  I 3, .str [3, 2, 1, 11, 0, 1, 97, 1, 104, 0], .str [120, 97, 0, 104, 0, 0, 0, 0, 0, 0, 0, 0, 10, 0, 0, 0, 0, 0, 0, 0, 3, 0, 0, 0, 0, 0, 0, 0, 1], I 2, .str [], .str [120, 97, 0,
  104, 0, 0, 0, 0, 0, 0, 0, 0, 11, 0, 0, 0, 0, 0, 0, 0, 3, 0, 0, 0, 0, 0, 0, 0, 2], I 4, .str []])) N N) N) N))))) (.node (some (.cells 246 [.ptr 7 0, I 0, .bool false, .slice 12
  0 1 1 false, I 1, I 2, I 13])) N (.node none (.node none (.node (some (.cells 58 [.ptr 7 0, .ptr 13 0, .ptr 67 0, .slice 91 0 1 1 true, .map 76, I 4])) N N) N) N)))) (.node none
  (.node none N (.node (some (.cells 150 [.str [], .nils])) N (.node none (.node none (.node (some (.map [] 0)) N N) N) N))) (.node (some (.map [(.str [109], .agg [.str [2, 0, 5,
  1, 2, 1, 0, 0, 0, 21, 0, 5, 3], I 13], 1), (.str [106, 49], .agg [.str [2, 0, 124, 17, 115, 0, 0, 0, 0, 0, 0, 0, 3, 0, 0, 0, 0, 0, 0, 0, 1, 1, 10, 3, 1, 0, 10, 0, 1, 97, 1, 104,
  0, 29, 120, 97, 0, 104, 0, 0, 0, 0, 0, 0, 0, 0, 10, 0, 0, 0, 0, 0, 0, 0, 3, 0, 0, 0, 0, 0, 0, 0, 1, 2, 0, 17, 115, 0, 0, 0, 0, 0, 0, 0, 3, 0, 0, 0, 0, 0, 0, 0, 2, 3, 10, 3, 2, 1,
   11, 0, 1, 97, 1, 104, 0, 29, 120, 97, 0, 104, 0, 0, 0, 0, 0, 0, 0, 0, 11, 0, 0, 0, 0, 0, 0, 0, 3, 0, 0, 0, 0, 0, 0, 0, 2, 4, 0, 134, 46, 5, 191, 3], I 132], 2)] 3)) (.node none
  N (.node none N (.node none N (.node none N (.node none (.node none (.node (some (.cells 28 [I 0, I 5, I 7])) N N) N) N))))) N)))
noncomputable def m22_4 : Tmps := (.node (some (.bool true)) (.node (some (.ptr 7 0)) (.node (some (.ptr 129 0)) (.node (some (.ptr 985 0)) (.node (some (I 2)) (.node (some (.tup [.agg [I 0, I 5, I 7], I 0, I 0]))
  (.node (some (.bool true)) N N) N) (.node (some (.slice 990 0 2 2 false)) (.node (some (.bool true)) N N) N)) (.node (some (.agg [I 0, I 5, .slice 128 0 2 2 false])) (.node
  (some (.ptr 77 0)) (.node (some (.bool true)) N N) N) (.node (some (.bool true)) (.node (some (.slice 1168 0 2 2 true)) N N) N))) (.node (some (I 0)) (.node (some (.ptr 77 0))
  (.node (some (.agg [I 0, I 5, I 7])) (.node (some (.bool true)) N N) N) (.node (some (I 0)) (.node (some (.bool true)) N N) N)) (.node (some (.tup [.agg [I 0, I 5, I 7], I 2, I
  0])) (.node (some (I 0)) (.node (some (.bool true)) N N) N) (.node (some (.bool true)) N N)))) (.node (some (I 2)) (.node (some (I 0)) (.node (some (.tup [.ptr 7 0, .ptr 77 0]))
  (.node (some (.agg [I 0, I 5, .slice 128 0 2 2 false])) (.node (some (.agg [I 0, I 5, I 7])) N N) N) (.node (some (.tup [.agg [I 0, I 0, I 0], I 0, I 2])) (.node (some (.bool
  true)) N N) N)) (.node (some (.ptr 77 0)) (.node (some (.tup [.agg [I 0, I 0, I 0], I 0, I 3])) (.node (some (.bool true)) N N) N) (.node (some (I 2)) (.node (some (.bool true))
  N N) N))) (.node (some (.ptr 994 0)) (.node (some (.bool false)) (.node (some (I 0)) (.node (some (.bool true)) N N) N) (.node (some (.agg [I 0, I 5, I 7])) (.node (some (.bool
  true)) N N) N)) (.node (some (I 2)) (.node (some (.tup [.agg [I 0, I 0, I 0], I 0, I 2])) (.node (some (.bool true)) N N) N) (.node (some (I 0)) N N))))) (.node (some (.ptr 77
  0)) (.node (some (.ptr 634 0)) (.node (some (I 0)) (.node (some (.tup [.ptr 7 0, .ptr 77 0])) (.node (some (.ptr 77 0)) (.node (some (.bool true)) N N) N) (.node (some (.agg [I
  4, I 0, .slice 990 0 2 2 false])) (.node (some (.bool true)) N N) N)) (.node (some (.tup [.agg [I 0, I 5, I 7], I 2, I 0])) (.node (some (.agg [I 0, I 0, .nils])) (.node (some
  (.bool true)) N N) N) (.node (some (.bool true)) (.node (some (I 2)) N N) N))) (.node (some (I 3)) (.node (some (.ptr 77 0)) (.node (some (I 0)) (.node (some (.bool true)) N N)
  N) (.node (some (I 2)) (.node (some (.bool true)) N N) N)) (.node (some (.agg [I 0, I 5, I 7])) (.node (some (I 3)) (.node (some (.bool true)) N N) N) (.node (some (.bool true))
  N N)))) (.node (some (I 0)) (.node (some (.ptr 989 0)) (.node (some (.ptr 7 0)) (.node (some (.tup [.agg [I 0, I 5, I 7], I 0, I 0])) (.node (some (.agg [I 0, I 5, I 7])) N N)
  N) (.node (some (.agg [I 0, I 0, I 0])) (.node (some (I 2)) N N) N)) (.node (some (.agg [I 0, I 5, .slice 128 0 2 2 false])) (.node (some (.agg [I 0, I 0, I 0])) (.node (some (I
  0)) N N) N) (.node (some (.bool true)) (.node (some (.bool true)) N N) N))) (.node (some (I 0)) (.node (some (.slice 128 0 2 2 false)) (.node (some (.tup [.agg [I 0, I 0, I 0],
  I 0, I 3])) (.node (some (I 0)) N N) N) (.node (some (.agg [I 0, I 5, I 7])) (.node (some (.ptr 77 0)) N N) N)) (.node (some (I 0)) (.node (some (.ptr 77 0)) (.node (some (I 3))
  N N) N) (.node (some (.bool true)) N N))))))
noncomputable def h22_4 : Heap := (.node none (.node (some (.ro 261 [.sym 1])) N N) N)
end Go.Proofs.YthkcicilmhpfjaaGreatDoor

/- The run of 22: piece 1. -/
namespace Go.Proofs.YthkcicilmhpfjaaGreatDoor
open Go.Eng

set_option maxRecDepth 1000000 in
theorem r22_1 : cdEq (codeK Tryz.prog smAll 100000 91 [1, 6, 7, 12, 13, 67, 76, 77, 89, 91] ((p22.drop 0).take 2) m22_0 [] h22_0 6) (.mk .norm m22_1 [] h22_1 128) = true := by decide +kernel
end Go.Proofs.YthkcicilmhpfjaaGreatDoor

/- The run of 22: piece 2. -/
namespace Go.Proofs.YthkcicilmhpfjaaGreatDoor
open Go.Eng

set_option maxRecDepth 1000000 in
theorem r22_2 : cdEq (codeK Tryz.prog smAll 100000 91 [1, 6, 7, 12, 13, 67, 76, 77, 89, 91, 128, 129, 513, 633, 634] ((p22.drop 2).take 4) m22_1 [] h22_1 128) (.mk .norm m22_2 [] h22_2 635) = true := by decide +kernel
end Go.Proofs.YthkcicilmhpfjaaGreatDoor

/- The run of 22: piece 3. -/
namespace Go.Proofs.YthkcicilmhpfjaaGreatDoor
open Go.Eng

set_option maxRecDepth 1000000 in
theorem r22_3 : cdEq (codeK Tryz.prog smAll 100000 91 [1, 6, 7, 12, 13, 67, 76, 77, 89, 91, 513, 633, 634, 985] ((p22.drop 6).take 1) m22_2 [] h22_2 635) (.mk .norm m22_3 [] h22_3 986) = true := by decide +kernel
end Go.Proofs.YthkcicilmhpfjaaGreatDoor

/- The run of 22: piece 4. -/
namespace Go.Proofs.YthkcicilmhpfjaaGreatDoor
open Go.Eng

set_option maxRecDepth 1000000 in
theorem r22_4 : cdEq (codeK Tryz.prog smAll 100000 91 [1] (p22.drop 7) m22_3 [] h22_3 986) (.mk .ret m22_4 [] h22_4 1189) = true := by decide +kernel
end Go.Proofs.YthkcicilmhpfjaaGreatDoor

/- The run of 22, whole: it returns true, and nothing that was there has turned. -/
namespace Go.Proofs.YthkcicilmhpfjaaGreatDoor
open Go.Eng Go.RowKit

set_option maxRecDepth 1000000 in
theorem lives22_any {η : Env} {w : World} (h0 : RoHeap Tryz.prog η h22_0 w) : Calls Tryz.prog 10 #[] w fun e w' => e = .returned (.bool true) ∧ Eng.Kept (fun _ => False) w w' := by
  have hk : ∀ n o, h22_0.get n = some o → ∃ t cs, h22_4.get n = some (.ro t cs) := fun n o hn => by
    have hb := ro_names (h0 n o hn).1 hn (by decide +kernel : roSame Tryz.prog.globals.size h22_0 h22_4 = true)
    exact hb
  refine calls_of_wp Tryz.func10 (c := _) rfl (wp_flat (w := w) ?_)
  have hp : flat _ [] = p22 := rfl
  rw [hp]
  have s0 := start_ok h0
  rw [show Tryz.prog.globals.size = 6 by kernel_rfl] at s0
  rw [show p22 = p22.drop 0 by simp]
  refine piece (l := p22) mixed noGo (smAll_ok (η := η)) (by decide) r22_1 s0 noArgs rfl fun s1 a1 x1 d1 t1 w1 => ?_
  refine piece (l := p22) mixed noGo (smAll_ok (η := η)) (by decide) r22_2 w1.rel t1 d1 fun s2 a2 x2 d2 t2 w2 => ?_
  refine piece (l := p22) mixed noGo (smAll_ok (η := η)) (by decide) r22_3 w2.rel t2 d2 fun s3 a3 x3 d3 t3 w3 => ?_
  refine last_piece (l := p22) mixed noGo (smAll_ok (η := η)) (by decide) r22_4 w3.rel t3 d3 (v := .bool true) (by rfl) fun s u x hu W => ?_
  rw [conc_bool] at hu
  subst hu
  exact ⟨rfl, end_ok h0 (by rw [show Tryz.prog.globals.size = 6 by kernel_rfl]; exact (((w1.trans w2).trans w3).trans W)) hk⟩
end Go.Proofs.YthkcicilmhpfjaaGreatDoor

/- IngestNone of any batch at any tick. -/
namespace Go.Proofs.YthkcicilmhpfjaaGreatDoor
open Go.RowKit Go.Eng

theorem eql28 (w : World) : (binOp .eql 28 (.agg #[.int .i64 0, .int .i64 0, .int .i64 0]) (.agg #[.int .i64 0, .int .i64 0, .int .i64 0])).run Tryz.prog w = .ok (.bool true) w := by kernel_rfl
set_option maxHeartbeats 4000000 in
set_option maxRecDepth 100000 in
theorem ingestNone_any {η : Env} {w : World} {ho fi now : Int} {v : Value} {L : List Spn} (hnow : now ≤ 9223372036854775807) (hr : ReadsS w v L) (hl : L.length ≤ 9223372036854775807) (hfit : ∀ y ∈ L, y.se.size ≤ 9223372036854775807 ∧ y.ho.size ≤ 9223372036854775807 ∧ y.no.size ≤ 9223372036854775807)
    (R : RoHeap Tryz.prog η hG w) :
    Calls Tryz.prog 3 #[.agg #[.int .i64 ho, .int .i64 fi, v], .int .i64 now] w fun e w' => e = .returned (.bool true) ∧ Kept (fun _ => False) w w' := by
  have tt : ∀ {a b c : World}, Kept (fun _ => False) a b → Kept (fun _ => False) b c → Kept (fun _ => False) a c := fun h k => h.trans k (fun _ _ h => h) (fun _ _ h => h)
  have ek : ∀ {w1 w2 : World}, Eng.Kept (fun _ => False) w1 w2 → Kept (fun _ => False) w1 w2 := fun k => ⟨k.os, k.tape, k.output, k.size, k.block⟩
  have B9 := Lib.hid (fun w' (K : Kept (fun _ => False) w w') => beyond9 20 (hr.keptF K) hl hfit)
  have LV := Lib.hid (fun w' (K : Kept (fun _ => False) w w') => lives22_any (RoHeap.kept R K))
  obtain ⟨bb, hbb⟩ : ∃ bb, bey9 L 20 = bb := ⟨_, rfl⟩
  rw [hbb] at B9
  cases bb with
  | true =>
    clear hbb hr hl hfit R
    go_enter Tryz.func3, Tryz.ntmps3
    go_wp2_with fail
    refine (B9.out _ ((Kept.refl _ _).alloc _)).mono ?_
    rintro e w1 ⟨rfl, rfl⟩
    go_wp2_with fail
    refine (LV.out _ ((Kept.refl _ _).alloc _)).mono ?_
    rintro e w2 ⟨rfl, k2⟩
    go_wp2
    go_ret
    exact ⟨rfl, tt ((Kept.refl _ _).alloc _) (ek k2)⟩
  | false =>
    have hL20 : L.length ≤ 20 := by unfold bey9 at hbb; simp at hbb; omega
    have TK := Lib.hid (fun w' (K : Kept (fun _ => False) w w') => take_nil11 (ho := ho) (fi := fi) (now := now) hnow (hr.keptF K) hL20 hfit)
    have CK := Lib.hid (fun w' (K : Kept (fun _ => False) w w') => check12 (ho := ho) (fi := fi) (hr.keptF K) hL20 hfit)
    unfold takeI at TK
    obtain ⟨x, hx⟩ : ∃ x, chkI ho fi L = x := ⟨_, rfl⟩
    rw [hx] at TK CK
    clear hx hbb hr hl hfit R hL20
    have E28 := eql28
    by_cases h0 : x = 0
    · subst h0
      rw [show decide ((0 : Int) = 0) = true from rfl] at TK
      go_enter Tryz.func3, Tryz.ntmps3
      go_wp2_with fail
      refine (B9.out _ ((Kept.refl _ _).alloc _)).mono ?_
      rintro e w1 ⟨rfl, rfl⟩
      go_wp2_with fail
      refine (TK.out _ ((Kept.refl _ _).alloc _)).mono ?_
      rintro e w2 ⟨rfl, k2⟩
      have b0 := k2.cell (a := ⟨w.heap.size, 0, none⟩) (v := .int .i64 ho) (by go_simp) (fun f => f)
      have b1 := k2.cell (a := ⟨w.heap.size, 1, none⟩) (v := .int .i64 fi) (by go_simp) (fun f => f)
      have b2 := k2.cell (a := ⟨w.heap.size, 2, none⟩) (v := v) (by go_simp) (fun f => f)
      have d0 : ∀ o, (w2.alloc o).cell? ⟨w.heap.size, 0, none⟩ = some (.int .i64 ho) := fun o => ((Kept.refl (fun _ => False) w2).alloc o).cell b0 (fun f => f)
      have d1 : ∀ o, (w2.alloc o).cell? ⟨w.heap.size, 1, none⟩ = some (.int .i64 fi) := fun o => ((Kept.refl (fun _ => False) w2).alloc o).cell b1 (fun f => f)
      have d2 : ∀ o, (w2.alloc o).cell? ⟨w.heap.size, 2, none⟩ = some v := fun o => ((Kept.refl (fun _ => False) w2).alloc o).cell b2 (fun f => f)
      have K2 := Lib.hid (tt ((Kept.refl _ _).alloc _) k2)
      clear k2 b0 b1 b2
      go_wp2_with fail
      refine (CK.out _ (tt K2.out ((Kept.refl _ _).alloc _))).mono ?_
      rintro e w3 ⟨rfl, k3⟩
      have a0 := k3.cell (a := ⟨w2.heap.size, 0, none⟩) (v := .int .i64 0) (by go_simp) (fun f => f)
      have a1 := k3.cell (a := ⟨w2.heap.size, 1, none⟩) (v := .int .i64 0) (by go_simp) (fun f => f)
      have a2 := k3.cell (a := ⟨w2.heap.size, 2, none⟩) (v := .int .i64 0) (by go_simp) (fun f => f)
      have K3 := Lib.hid (tt K2.out (tt ((Kept.refl _ _).alloc _) k3))
      clear k3 d0 d1 d2
      go_wp2_with (go_at_call 10; refine (LV.out _ K3.out).mono ?_; rintro e w4 ⟨rfl, k4⟩)
      go_ret
      exact ⟨rfl, tt K3.out (ek k4)⟩
    · rw [show decide (x = 0) = false by simpa using h0] at TK
      have e0 : (x != 0) = true := by simpa using h0
      have e1 : (x == 0) = false := by simpa using h0
      go_enter Tryz.func3, Tryz.ntmps3
      go_wp2_with fail
      refine (B9.out _ ((Kept.refl _ _).alloc _)).mono ?_
      rintro e w1 ⟨rfl, rfl⟩
      go_wp2_with fail
      refine (TK.out _ ((Kept.refl _ _).alloc _)).mono ?_
      rintro e w2 ⟨rfl, k2⟩
      have b0 := k2.cell (a := ⟨w.heap.size, 0, none⟩) (v := .int .i64 ho) (by go_simp) (fun f => f)
      have b1 := k2.cell (a := ⟨w.heap.size, 1, none⟩) (v := .int .i64 fi) (by go_simp) (fun f => f)
      have b2 := k2.cell (a := ⟨w.heap.size, 2, none⟩) (v := v) (by go_simp) (fun f => f)
      have d0 : ∀ o, (w2.alloc o).cell? ⟨w.heap.size, 0, none⟩ = some (.int .i64 ho) := fun o => ((Kept.refl (fun _ => False) w2).alloc o).cell b0 (fun f => f)
      have d1 : ∀ o, (w2.alloc o).cell? ⟨w.heap.size, 1, none⟩ = some (.int .i64 fi) := fun o => ((Kept.refl (fun _ => False) w2).alloc o).cell b1 (fun f => f)
      have d2 : ∀ o, (w2.alloc o).cell? ⟨w.heap.size, 2, none⟩ = some v := fun o => ((Kept.refl (fun _ => False) w2).alloc o).cell b2 (fun f => f)
      have K2 := Lib.hid (tt ((Kept.refl _ _).alloc _) k2)
      clear k2 b0 b1 b2
      go_wp2_with fail
      refine (CK.out _ (tt K2.out ((Kept.refl _ _).alloc _))).mono ?_
      rintro e w3 ⟨rfl, k3⟩
      have a0 := k3.cell (a := ⟨w2.heap.size, 0, none⟩) (v := .int .i64 0) (by go_simp) (fun f => f)
      have a1 := k3.cell (a := ⟨w2.heap.size, 1, none⟩) (v := .int .i64 0) (by go_simp) (fun f => f)
      have a2 := k3.cell (a := ⟨w2.heap.size, 2, none⟩) (v := .int .i64 0) (by go_simp) (fun f => f)
      have K3 := Lib.hid (tt K2.out (tt ((Kept.refl _ _).alloc _) k3))
      clear k3 d0 d1 d2
      go_wp2_with (go_at_call 10; refine (LV.out _ K3.out).mono ?_; rintro e w4 ⟨rfl, k4⟩)
      go_ret
      exact ⟨rfl, tt K3.out (ek k4)⟩
end Go.Proofs.YthkcicilmhpfjaaGreatDoor

/- IngestNone of what is handed in. -/
namespace Go.Proofs.YthkcicilmhpfjaaGreatDoor
open Go.RowKit Go.Eng

noncomputable def envI (W : World) : Env := ⟨fun _ => (W.cell? ⟨1, 0, none⟩).getD undef, fun n => W.heap[n]?⟩
theorem ingestNone_in {r : List (String × DataW Unit)} {W : World} {ho fi now : Int} {v : Value} {L : List Spn} (hL : laidMet Tryz.prog (("strconv.ErrSyntax", Rows.laid_strconv_ErrSyntax) :: r) W) (hnow : now ≤ 9223372036854775807) (hr : ReadsS W v L) (hf : Fit L) :
    Calls Tryz.prog 3 #[.agg #[.int .i64 ho, .int .i64 fi, v], .int .i64 now] W fun e w' => e = .returned (.bool true) ∧ Kept (fun _ => False) W w' := by
  obtain ⟨f1, f2⟩ := hf
  unfold maxLen at f1 f2
  exact ingestNone_any (η := envI W) hnow hr f1 f2 (laid_roE hL rfl rfl)
end Go.Proofs.YthkcicilmhpfjaaGreatDoor

