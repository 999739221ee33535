/- A part of the proof. -/
import Derived.Shelf.Strconv.Itoa0
import Derived.Ground.NamesProg
import Derived.Test.YthkcicilmhpfjaaGreatDoorProg
import Derived.LoopN
import Derived.Laws.BytesArg
import Derived.Shelf.Strings.Builder1
import Derived.Lib.AppendStr
import Derived.Test.YthkcicilmhpfjaaGreatDoorRn4

/- spans.Check of any span. -/
namespace Go.Proofs.YthkcicilmhpfjaaGreatDoor
open Go.RowKit

def aggS (m : Spn) : Value := .agg #[.int .i64 m.tr, .int .i64 m.id, .int .i64 m.pa, .string m.se, .string m.ho, .int .i64 m.st, .int .i64 m.du, .string m.no]
def numsV (p : Nat) : Value := .agg #[.pointer (some ⟨p, 0, none⟩), .int .i64 1, .int .i64 2147483647, .pointer (some ⟨p, 1, none⟩), .int .i64 1, .int .i64 2147483647, .pointer (some ⟨p, 2, none⟩), .int .i64 0, .int .i64 2147483647, .pointer (some ⟨p, 5, none⟩), .int .i64 0, .int .i64 1073741824, .pointer (some ⟨p, 6, none⟩), .int .i64 0, .int .i64 1073741824]

theorem ix0 (p : Nat) (W : World) : (Instr.index 236 (numsV p) (.int .i64 0)).run Tryz.prog W = .ok (.agg #[.pointer (some ⟨p, 0, none⟩), .int .i64 1, .int .i64 2147483647]) W := by kernel_rfl
theorem ix1 (p : Nat) (W : World) : (Instr.index 236 (numsV p) (.int .i64 1)).run Tryz.prog W = .ok (.agg #[.pointer (some ⟨p, 1, none⟩), .int .i64 1, .int .i64 2147483647]) W := by kernel_rfl
theorem ix2 (p : Nat) (W : World) : (Instr.index 236 (numsV p) (.int .i64 2)).run Tryz.prog W = .ok (.agg #[.pointer (some ⟨p, 2, none⟩), .int .i64 0, .int .i64 2147483647]) W := by kernel_rfl
theorem ix3 (p : Nat) (W : World) : (Instr.index 236 (numsV p) (.int .i64 3)).run Tryz.prog W = .ok (.agg #[.pointer (some ⟨p, 5, none⟩), .int .i64 0, .int .i64 1073741824]) W := by kernel_rfl
theorem ix4 (p : Nat) (W : World) : (Instr.index 236 (numsV p) (.int .i64 4)).run Tryz.prog W = .ok (.agg #[.pointer (some ⟨p, 6, none⟩), .int .i64 0, .int .i64 1073741824]) W := by kernel_rfl
set_option maxHeartbeats 4000000 in
set_option maxRecDepth 100000 in
theorem numbers_any (p : Nat) (w : World) : Calls Tryz.prog 145 #[.pointer (some ⟨p, 0, none⟩)] w fun e w' => e = .returned (numsV p) ∧ Kept (fun _ => False) w w' := by
  go_enter Tryz.func145, Tryz.ntmps145
  go_wp2
  go_region
  all_goals go_wp2
  refine bodyPost_ret (v := _) (by simp [results, Tryz.results145, go_sem]; try rfl) rfl ?_
  exact ⟨rfl, ((Kept.refl _ w).alloc _).drew⟩

def offJ : Nat → Nat | 0 => 0 | 1 => 1 | 2 => 2 | 3 => 5 | _ => 6
def leastJ : Nat → Int | 0 => 1 | 1 => 1 | _ => 0
def mostJ : Nat → Int | 0 => 2147483647 | 1 => 2147483647 | 2 => 2147483647 | _ => 1073741824
def numJ (m : Spn) : Nat → Int | 0 => m.tr | 1 => m.id | 2 => m.pa | 3 => m.st | _ => m.du
def okJ (m : Spn) (j : Nat) : Bool := decide (leastJ j ≤ numJ m j) && decide (numJ m j ≤ mostJ j)
def chkB (m : Spn) : Bool := okJ m 0 && okJ m 1 && okJ m 2 && okJ m 3 && okJ m 4 && nameB m.se && nameB m.ho && decide (m.no.size ≤ 24)
def errN : Bool → Int | true => 0 | false => 2
theorem chk_num {m : Spn} (h : chkB m = true) : (1 ≤ m.tr ∧ m.tr ≤ 2147483647) ∧ (1 ≤ m.id ∧ m.id ≤ 2147483647) ∧ (0 ≤ m.pa ∧ m.pa ≤ 2147483647) ∧ (0 ≤ m.st ∧ m.st ≤ 1073741824) ∧ (0 ≤ m.du ∧ m.du ≤ 1073741824) := by
  unfold chkB okJ leastJ mostJ numJ at h
  simp at h
  omega
theorem chk_not {m : Spn} {j : Nat} (hj : j < 5) (h : okJ m j = false) : chkB m = false := by
  unfold chkB
  obtain rfl | rfl | rfl | rfl | rfl : j = 0 ∨ j = 1 ∨ j = 2 ∨ j = 3 ∨ j = 4 := by omega
  all_goals simp [h]
theorem ixJ (p j : Nat) (hj : j < 5) (W : World) : (Instr.index 236 (numsV p) (.int .i64 (j : Int))).run Tryz.prog W = .ok (.agg #[.pointer (some ⟨p, offJ j, none⟩), .int .i64 (leastJ j), .int .i64 (mostJ j)]) W := by
  obtain rfl | rfl | rfl | rfl | rfl : j = 0 ∨ j = 1 ∨ j = 2 ∨ j = 3 ∨ j = 4 := by omega
  · exact ix0 p W
  · exact ix1 p W
  · exact ix2 p W
  · exact ix3 p W
  · exact ix4 p W
/-- A span lies at a block's beginning. -/
def SpanAt (w : World) (g : Nat) (m : Spn) : Prop := ∀ j u, m.cells[j]? = some u → w.cell? ⟨g, j, none⟩ = some u
theorem SpanAt.kept {S : Nat → Prop} {w w' : World} {g : Nat} {m : Spn} (h : SpanAt w g m) (hK : Kept S w w') (hS : ¬ S g) : SpanAt w' g m := fun j u hj => hK.cell (h j u hj) hS
theorem SpanAt.keptF {w w' : World} {g : Nat} {m : Spn} (h : SpanAt w g m) (hK : Kept (fun _ => False) w w') : SpanAt w' g m := h.kept hK (fun f => f)
theorem SpanAt.new {w : World} {m : Spn} : SpanAt (w.alloc (.cells #[.int .i64 m.tr, .int .i64 m.id, .int .i64 m.pa, .string m.se, .string m.ho, .int .i64 m.st, .int .i64 m.du, .string m.no] 111)) w.heap.size m := by
  intro j u hj
  unfold Spn.cells at hj
  rcases j with _ | _ | _ | _ | _ | _ | _ | _ | j <;> simp at hj <;> subst hj <;> simp
theorem SpanAt.num {w : World} {g : Nat} {m : Spn} (h : SpanAt w g m) (j : Nat) : w.cell? ⟨g, offJ j, none⟩ = some (.int .i64 (numJ m j)) := by
  match j with
  | 0 => exact h 0 _ rfl
  | 1 => exact h 1 _ rfl
  | 2 => exact h 2 _ rfl
  | 3 => exact h 5 _ rfl
  | j + 4 => exact h 6 _ rfl
set_option maxHeartbeats 8000000 in
set_option maxRecDepth 100000 in
theorem check_all (m : Spn) (hs : m.se.size ≤ 9223372036854775807) (hh : m.ho.size ≤ 9223372036854775807) (hn : m.no.size ≤ 9223372036854775807) (w : World) : Calls Tryz.prog 72 #[aggS m] w fun e w' => e = .returned (.int .i64 (errN (chkB m))) ∧ Kept (fun _ => False) w w' := by
  have N0 := Lib.hid (name_all m.se hs)
  have N1 := Lib.hid (name_all m.ho hh)
  unfold aggS
  go_enter Tryz.func72, Tryz.ntmps72
  go_wp2_with fail
  obtain ⟨W, hW⟩ : ∃ W, w.alloc (.cells #[.int .i64 m.tr, .int .i64 m.id, .int .i64 m.pa, .string m.se, .string m.ho, .int .i64 m.st, .int .i64 m.du, .string m.no] 111) = W := ⟨_, rfl⟩
  have K0 : Kept (fun _ => False) w W := by rw [← hW]; exact (Kept.refl _ w).alloc _
  have q0 : SpanAt W w.heap.size m := by rw [← hW]; exact SpanAt.new
  rw [hW]
  clear hW
  refine (numbers_any w.heap.size W).mono ?_
  rintro e w1 ⟨rfl, k1⟩
  have K1 := Lib.hid (K0.trans k1 (fun _ _ f => f) (fun _ _ f => f) : Kept (fun _ => False) w w1)
  have Q1 := Lib.hid (q0.keptF k1)
  clear k1 K0 q0
  obtain ⟨nv, hnv⟩ : ∃ nv, numsV w.heap.size = nv := ⟨_, rfl⟩
  have X := Lib.hid (ixJ w.heap.size)
  rw [hnv] at X ⊢
  clear hnv
  obtain ⟨p, hp⟩ : ∃ p, w.heap.size = p := ⟨_, rfl⟩
  rw [hp] at X Q1 ⊢
  clear hp
  go_wp2
  go_loopg [6] 5 (fun g t wr => ∃ i : Nat, i + g = 5 ∧ t = .int .i64 i ∧ Kept (fun _ => False) w1 wr ∧ ∀ j, j < i → okJ m j = true)
  case atStart => exact ⟨0, by omega, rfl, Kept.refl _ _, fun j hj => absurd hj (Nat.not_lt_zero j)⟩
  case round =>
    obtain ⟨i, hi, rfl, KW, hok⟩ := hrel
    have KF := Lib.hid KW
    have HI := Lib.hid hi
    have OK := Lib.hid hok
    have QW := Lib.hid (Q1.out.keptF KW)
    clear KW hi hok
    by_cases h5 : i < 5
    · have i1 : (i : Int) < 5 := by omega
      have x0 := X.out i h5
      obtain ⟨l, hl⟩ : ∃ l, leastJ i = l := ⟨_, rfl⟩
      obtain ⟨u, hu⟩ : ∃ u, mostJ i = u := ⟨_, rfl⟩
      obtain ⟨x, hx⟩ : ∃ x, numJ m i = x := ⟨_, rfl⟩
      obtain ⟨o, ho⟩ : ∃ o, offJ i = o := ⟨_, rfl⟩
      have qq := QW.out.num i
      rw [hx, ho] at qq
      rw [hl, hu, ho] at x0
      have HL := Lib.hid hl; have HU := Lib.hid hu; have HX := Lib.hid hx
      clear hl hu hx ho
      go_wp2
      obtain ⟨a0, a1, a2, _, _⟩ := (Kept.refl (fun _ => False) (wr.alloc (.cells #[.pointer (some ⟨p, o, none⟩), .int .i64 l, .int .i64 u] 235))).fresh3 (fun f => f)
      have KA := Lib.hid (KF.out.alloc (.cells #[.pointer (some ⟨p, o, none⟩), .int .i64 l, .int .i64 u] 235))
      have qq2 := ((Kept.refl (fun _ => False) wr).alloc (.cells #[.pointer (some ⟨p, o, none⟩), .int .i64 l, .int .i64 u] 235)).cell qq (fun f => f)
      obtain ⟨W2, hW2⟩ : ∃ W2, wr.alloc (.cells #[.pointer (some ⟨p, o, none⟩), .int .i64 l, .int .i64 u] 235) = W2 := ⟨_, rfl⟩
      rw [hW2] at a0 a1 a2 KA qq2 ⊢
      clear hW2 qq x0
      by_cases c1 : x < l
      · go_region
        all_goals go_wp2
        all_goals go_ret
        have e : chkB m = false := chk_not h5 (by unfold okJ; rw [HX.out, HL.out]; simp; omega)
        exact ⟨by rw [e]; rfl, K1.out.trans KA.out.drew (fun _ _ f => f) (fun _ _ f => f)⟩
      · by_cases c2 : u < x
        · refine wp_region_held_drew (S := (fun w' => w'.cell? ⟨wr.heap.size, 0, none⟩ = some (.pointer (some ⟨p, o, none⟩)) ∧ w'.cell? ⟨wr.heap.size, 1, none⟩ = some (.int .i64 l) ∧ w'.cell? ⟨wr.heap.size, 2, none⟩ = some (.int .i64 u) ∧ w'.cell? ⟨p, o, none⟩ = some (.int .i64 x))) (by kernel_rfl) ?_ (fun hHeld => ?_)
          · exact ⟨a0, a1, a2, qq2⟩
          refine wpAnyH_take (i := 0) (v := ?_) opAt0 (by kernel_rfl) (by kernel_rfl) (by kernel_rfl) (fun _ _ _ h => h) (Or.inl ⟨by rfl, ?_⟩) hHeld ?_
          case refine_2 => (intro w hSw; (try dsimp only at hSw); go_simp; all_goals (with_reducible rfl))
          (try simp only [Act.put]); (try simp only [List.setIfInBounds_toArray]); (try simp only [List.set_cons_succ]); (try simp only [List.set_cons_zero])
          refine wpAnyH_take (i := 1) (v := ?_) opAt1 (by kernel_rfl) (by kernel_rfl) (by kernel_rfl) (fun _ _ _ h => h) (Or.inl ⟨by rfl, ?_⟩) hHeld ?_
          case refine_2 => (intro w hSw; (try dsimp only at hSw); go_simp; all_goals (with_reducible rfl))
          (try simp only [Act.put]); (try simp only [List.setIfInBounds_toArray]); (try simp only [List.set_cons_succ]); (try simp only [List.set_cons_zero])
          refine wpAnyH_take (i := 2) (v := ?_) opAt2 (by kernel_rfl) (by kernel_rfl) (by kernel_rfl) (fun _ _ _ h => h) (Or.inl ⟨by rfl, ?_⟩) hHeld ?_
          case refine_2 => (intro w hSw; (try dsimp only at hSw); go_simp; all_goals (with_reducible rfl))
          (try simp only [Act.put]); (try simp only [List.setIfInBounds_toArray]); (try simp only [List.set_cons_succ]); (try simp only [List.set_cons_zero])
          refine wpAnyH_take (i := 3) (v := ?_) opAt3 (by kernel_rfl) (by kernel_rfl) (by kernel_rfl) (fun _ _ _ h => h) (Or.inl ⟨by rfl, ?_⟩) hHeld ?_
          case refine_2 => (intro w hSw; (try dsimp only at hSw); go_simp; all_goals (with_reducible rfl))
          (try simp only [Act.put]); (try simp only [List.setIfInBounds_toArray]); (try simp only [List.set_cons_succ]); (try simp only [List.set_cons_zero])
          refine wpAnyH_take (i := 4) (v := ?_) opAt4 (by kernel_rfl) (by kernel_rfl) (by kernel_rfl) (fun _ _ _ h => h) (Or.inl ⟨by rfl, ?_⟩) hHeld ?_
          case refine_2 => (intro w hSw; (try dsimp only at hSw); go_simp; all_goals (with_reducible rfl))
          (try simp only [Act.put]); (try simp only [List.setIfInBounds_toArray]); (try simp only [List.set_cons_succ]); (try simp only [List.set_cons_zero])
          refine wpAnyH_take (i := 5) (v := ?_) opAt5 (by kernel_rfl) (by kernel_rfl) (by kernel_rfl) (fun _ _ _ h => h) (Or.inl ⟨by rfl, ?_⟩) hHeld ?_
          case refine_2 => (intro w hSw; (try dsimp only at hSw); go_simp; all_goals (with_reducible rfl))
          (try simp only [Act.put]); (try simp only [List.setIfInBounds_toArray]); (try simp only [List.set_cons_succ]); (try simp only [List.set_cons_zero])
          refine wpAnyH_take (i := 6) (v := ?_) opAt6 (by kernel_rfl) (by kernel_rfl) (by kernel_rfl) (fun _ _ _ h => h) (Or.inl ⟨by rfl, ?_⟩) hHeld ?_
          case refine_2 => (intro w hSw; (try dsimp only at hSw); go_simp; all_goals (with_reducible rfl))
          (try simp only [Act.put]); (try simp only [List.setIfInBounds_toArray]); (try simp only [List.set_cons_succ]); (try simp only [List.set_cons_zero])
          refine wpAnyH_take (i := 7) (v := ?_) opAt7 (by kernel_rfl) (by kernel_rfl) (by kernel_rfl) (fun _ _ _ h => h) (Or.inl ⟨by rfl, ?_⟩) hHeld ?_
          case refine_2 => (intro w hSw; (try dsimp only at hSw); go_simp; all_goals (with_reducible rfl))
          (try simp only [Act.put]); (try simp only [List.setIfInBounds_toArray]); (try simp only [List.set_cons_succ]); (try simp only [List.set_cons_zero])
          refine wpAnyH_take (i := 8) (v := ?_) opAt8 (by kernel_rfl) (by kernel_rfl) (by kernel_rfl) (fun _ _ _ h => h) (Or.inl ⟨by rfl, ?_⟩) hHeld ?_
          case refine_2 => (intro w hSw; (try dsimp only at hSw); go_simp; all_goals (with_reducible rfl))
          (try simp only [Act.put]); (try simp only [List.setIfInBounds_toArray]); (try simp only [List.set_cons_succ]); (try simp only [List.set_cons_zero])
          refine wpAnyH_take (i := 9) (v := ?_) opAt9 (by kernel_rfl) (by kernel_rfl) (by kernel_rfl) (fun _ _ _ h => h) (Or.inl ⟨by rfl, ?_⟩) hHeld ?_
          case refine_2 => (intro w hSw; (try dsimp only at hSw); go_simp; all_goals (with_reducible rfl))
          (try simp only [Act.put]); (try simp only [List.setIfInBounds_toArray]); (try simp only [List.set_cons_succ]); (try simp only [List.set_cons_zero])
          refine wpAnyH_take (i := 10) (v := ?_) opAt10 (by kernel_rfl) (by kernel_rfl) (by kernel_rfl) (fun _ _ _ h => h) (Or.inl ⟨by rfl, ?_⟩) hHeld ?_
          case refine_2 => (intro w hSw; (try dsimp only at hSw); go_simp; all_goals (with_reducible rfl))
          (try simp only [Act.put]); (try simp only [List.setIfInBounds_toArray]); (try simp only [List.set_cons_succ]); (try simp only [List.set_cons_zero])
          refine wpAnyH_take (i := 11) (v := ?_) opAt11 (by kernel_rfl) (by kernel_rfl) (by kernel_rfl) (fun _ _ _ h => h) (Or.inl ⟨by rfl, ?_⟩) hHeld ?_
          case refine_2 => (intro w hSw; (try dsimp only at hSw); go_simp; all_goals (with_reducible rfl))
          (try simp only [Act.put]); (try simp only [List.setIfInBounds_toArray]); (try simp only [List.set_cons_succ]); (try simp only [List.set_cons_zero])
          refine wpAnyH_take (i := 12) (v := ?_) opAt12 (by kernel_rfl) (by kernel_rfl) (by kernel_rfl) (fun _ _ _ h => h) (Or.inl ⟨by rfl, ?_⟩) hHeld ?_
          case refine_2 => (intro w hSw; (try dsimp only at hSw); go_simp; all_goals (with_reducible rfl))
          (try simp only [Act.put]); (try simp only [List.setIfInBounds_toArray]); (try simp only [List.set_cons_succ]); (try simp only [List.set_cons_zero])
          refine wpAnyH_take (i := 13) (v := ?_) opAt13 (by kernel_rfl) (by kernel_rfl) (by kernel_rfl) (fun _ _ _ h => h) (Or.inl ⟨by rfl, ?_⟩) hHeld ?_
          case refine_2 => (intro w hSw; (try dsimp only at hSw); go_simp; all_goals (with_reducible rfl))
          (try simp only [Act.put]); (try simp only [List.setIfInBounds_toArray]); (try simp only [List.set_cons_succ]); (try simp only [List.set_cons_zero])
          refine wpAnyH_take (i := 14) (v := ?_) opAt14 (by kernel_rfl) (by kernel_rfl) (by kernel_rfl) (fun _ _ _ h => h) (Or.inl ⟨by rfl, ?_⟩) hHeld ?_
          case refine_2 => (intro w hSw; (try dsimp only at hSw); go_simp; all_goals (with_reducible rfl))
          (try simp only [Act.put]); (try simp only [List.setIfInBounds_toArray]); (try simp only [List.set_cons_succ]); (try simp only [List.set_cons_zero])
          refine wpAnyH_take (i := 15) (v := ?_) opAt15 (by kernel_rfl) (by kernel_rfl) (by kernel_rfl) (fun _ _ _ h => h) (Or.inl ⟨by rfl, ?_⟩) hHeld ?_
          case refine_2 => (intro w hSw; (try dsimp only at hSw); go_simp; all_goals (with_reducible rfl))
          (try simp only [Act.put]); (try simp only [List.setIfInBounds_toArray]); (try simp only [List.set_cons_succ]); (try simp only [List.set_cons_zero])
          refine wpAnyH_done (by kernel_rfl) ?_ _
          go_wp2
          go_ret
          have e : chkB m = false := chk_not h5 (by unfold okJ; rw [HX.out, HU.out]; simp; omega)
          exact ⟨by rw [e]; rfl, K1.out.trans KA.out.drew (fun _ _ f => f) (fun _ _ f => f)⟩
        · refine wp_region_held_drew (S := (fun w' => w'.cell? ⟨wr.heap.size, 0, none⟩ = some (.pointer (some ⟨p, o, none⟩)) ∧ w'.cell? ⟨wr.heap.size, 1, none⟩ = some (.int .i64 l) ∧ w'.cell? ⟨wr.heap.size, 2, none⟩ = some (.int .i64 u) ∧ w'.cell? ⟨p, o, none⟩ = some (.int .i64 x))) (by kernel_rfl) ?_ (fun hHeld => ?_)
          · exact ⟨a0, a1, a2, qq2⟩
          refine wpAnyH_take (i := 0) (v := ?_) opAt0 (by kernel_rfl) (by kernel_rfl) (by kernel_rfl) (fun _ _ _ h => h) (Or.inl ⟨by rfl, ?_⟩) hHeld ?_
          case refine_2 => (intro w hSw; (try dsimp only at hSw); go_simp; all_goals (with_reducible rfl))
          (try simp only [Act.put]); (try simp only [List.setIfInBounds_toArray]); (try simp only [List.set_cons_succ]); (try simp only [List.set_cons_zero])
          refine wpAnyH_take (i := 1) (v := ?_) opAt1 (by kernel_rfl) (by kernel_rfl) (by kernel_rfl) (fun _ _ _ h => h) (Or.inl ⟨by rfl, ?_⟩) hHeld ?_
          case refine_2 => (intro w hSw; (try dsimp only at hSw); go_simp; all_goals (with_reducible rfl))
          (try simp only [Act.put]); (try simp only [List.setIfInBounds_toArray]); (try simp only [List.set_cons_succ]); (try simp only [List.set_cons_zero])
          refine wpAnyH_take (i := 2) (v := ?_) opAt2 (by kernel_rfl) (by kernel_rfl) (by kernel_rfl) (fun _ _ _ h => h) (Or.inl ⟨by rfl, ?_⟩) hHeld ?_
          case refine_2 => (intro w hSw; (try dsimp only at hSw); go_simp; all_goals (with_reducible rfl))
          (try simp only [Act.put]); (try simp only [List.setIfInBounds_toArray]); (try simp only [List.set_cons_succ]); (try simp only [List.set_cons_zero])
          refine wpAnyH_take (i := 3) (v := ?_) opAt3 (by kernel_rfl) (by kernel_rfl) (by kernel_rfl) (fun _ _ _ h => h) (Or.inl ⟨by rfl, ?_⟩) hHeld ?_
          case refine_2 => (intro w hSw; (try dsimp only at hSw); go_simp; all_goals (with_reducible rfl))
          (try simp only [Act.put]); (try simp only [List.setIfInBounds_toArray]); (try simp only [List.set_cons_succ]); (try simp only [List.set_cons_zero])
          refine wpAnyH_take (i := 4) (v := ?_) opAt4 (by kernel_rfl) (by kernel_rfl) (by kernel_rfl) (fun _ _ _ h => h) (Or.inl ⟨by rfl, ?_⟩) hHeld ?_
          case refine_2 => (intro w hSw; (try dsimp only at hSw); go_simp; all_goals (with_reducible rfl))
          (try simp only [Act.put]); (try simp only [List.setIfInBounds_toArray]); (try simp only [List.set_cons_succ]); (try simp only [List.set_cons_zero])
          refine wpAnyH_take (i := 5) (v := ?_) opAt5 (by kernel_rfl) (by kernel_rfl) (by kernel_rfl) (fun _ _ _ h => h) (Or.inl ⟨by rfl, ?_⟩) hHeld ?_
          case refine_2 => (intro w hSw; (try dsimp only at hSw); go_simp; all_goals (with_reducible rfl))
          (try simp only [Act.put]); (try simp only [List.setIfInBounds_toArray]); (try simp only [List.set_cons_succ]); (try simp only [List.set_cons_zero])
          refine wpAnyH_take (i := 6) (v := ?_) opAt6 (by kernel_rfl) (by kernel_rfl) (by kernel_rfl) (fun _ _ _ h => h) (Or.inl ⟨by rfl, ?_⟩) hHeld ?_
          case refine_2 => (intro w hSw; (try dsimp only at hSw); go_simp; all_goals (with_reducible rfl))
          (try simp only [Act.put]); (try simp only [List.setIfInBounds_toArray]); (try simp only [List.set_cons_succ]); (try simp only [List.set_cons_zero])
          refine wpAnyH_take (i := 7) (v := ?_) opAt7 (by kernel_rfl) (by kernel_rfl) (by kernel_rfl) (fun _ _ _ h => h) (Or.inl ⟨by rfl, ?_⟩) hHeld ?_
          case refine_2 => (intro w hSw; (try dsimp only at hSw); go_simp; all_goals (with_reducible rfl))
          (try simp only [Act.put]); (try simp only [List.setIfInBounds_toArray]); (try simp only [List.set_cons_succ]); (try simp only [List.set_cons_zero])
          refine wpAnyH_take (i := 8) (v := ?_) opAt8 (by kernel_rfl) (by kernel_rfl) (by kernel_rfl) (fun _ _ _ h => h) (Or.inl ⟨by rfl, ?_⟩) hHeld ?_
          case refine_2 => (intro w hSw; (try dsimp only at hSw); go_simp; all_goals (with_reducible rfl))
          (try simp only [Act.put]); (try simp only [List.setIfInBounds_toArray]); (try simp only [List.set_cons_succ]); (try simp only [List.set_cons_zero])
          refine wpAnyH_take (i := 9) (v := ?_) opAt9 (by kernel_rfl) (by kernel_rfl) (by kernel_rfl) (fun _ _ _ h => h) (Or.inl ⟨by rfl, ?_⟩) hHeld ?_
          case refine_2 => (intro w hSw; (try dsimp only at hSw); go_simp; all_goals (with_reducible rfl))
          (try simp only [Act.put]); (try simp only [List.setIfInBounds_toArray]); (try simp only [List.set_cons_succ]); (try simp only [List.set_cons_zero])
          refine wpAnyH_take (i := 10) (v := ?_) opAt10 (by kernel_rfl) (by kernel_rfl) (by kernel_rfl) (fun _ _ _ h => h) (Or.inl ⟨by rfl, ?_⟩) hHeld ?_
          case refine_2 => (intro w hSw; (try dsimp only at hSw); go_simp; all_goals (with_reducible rfl))
          (try simp only [Act.put]); (try simp only [List.setIfInBounds_toArray]); (try simp only [List.set_cons_succ]); (try simp only [List.set_cons_zero])
          refine wpAnyH_take (i := 11) (v := ?_) opAt11 (by kernel_rfl) (by kernel_rfl) (by kernel_rfl) (fun _ _ _ h => h) (Or.inl ⟨by rfl, ?_⟩) hHeld ?_
          case refine_2 => (intro w hSw; (try dsimp only at hSw); go_simp; all_goals (with_reducible rfl))
          (try simp only [Act.put]); (try simp only [List.setIfInBounds_toArray]); (try simp only [List.set_cons_succ]); (try simp only [List.set_cons_zero])
          refine wpAnyH_take (i := 12) (v := ?_) opAt12 (by kernel_rfl) (by kernel_rfl) (by kernel_rfl) (fun _ _ _ h => h) (Or.inl ⟨by rfl, ?_⟩) hHeld ?_
          case refine_2 => (intro w hSw; (try dsimp only at hSw); go_simp; all_goals (with_reducible rfl))
          (try simp only [Act.put]); (try simp only [List.setIfInBounds_toArray]); (try simp only [List.set_cons_succ]); (try simp only [List.set_cons_zero])
          refine wpAnyH_take (i := 13) (v := ?_) opAt13 (by kernel_rfl) (by kernel_rfl) (by kernel_rfl) (fun _ _ _ h => h) (Or.inl ⟨by rfl, ?_⟩) hHeld ?_
          case refine_2 => (intro w hSw; (try dsimp only at hSw); go_simp; all_goals (with_reducible rfl))
          (try simp only [Act.put]); (try simp only [List.setIfInBounds_toArray]); (try simp only [List.set_cons_succ]); (try simp only [List.set_cons_zero])
          refine wpAnyH_take (i := 14) (v := ?_) opAt14 (by kernel_rfl) (by kernel_rfl) (by kernel_rfl) (fun _ _ _ h => h) (Or.inl ⟨by rfl, ?_⟩) hHeld ?_
          case refine_2 => (intro w hSw; (try dsimp only at hSw); go_simp; all_goals (with_reducible rfl))
          (try simp only [Act.put]); (try simp only [List.setIfInBounds_toArray]); (try simp only [List.set_cons_succ]); (try simp only [List.set_cons_zero])
          refine wpAnyH_take (i := 15) (v := ?_) opAt15 (by kernel_rfl) (by kernel_rfl) (by kernel_rfl) (fun _ _ _ h => h) (Or.inl ⟨by rfl, ?_⟩) hHeld ?_
          case refine_2 => (intro w hSw; (try dsimp only at hSw); go_simp; all_goals (with_reducible rfl))
          (try simp only [Act.put]); (try simp only [List.setIfInBounds_toArray]); (try simp only [List.set_cons_succ]); (try simp only [List.set_cons_zero])
          refine wpAnyH_done (by kernel_rfl) ?_ _
          go_wp2
          go_roundg (5 - i - 1)
          case measure => have := HI.out; omega
          case rel =>
            refine ⟨i + 1, by omega, by go_num, KA.out.drew, fun j hj => ?_⟩
            rcases Nat.lt_or_ge j i with h | h
            · exact OK.out j h
            · obtain rfl : j = i := by omega
              unfold okJ; rw [HX.out, HL.out, HU.out]; simp; omega
    · have i1 : ¬ (i : Int) < 5 := by omega
      obtain ⟨b0, hb0⟩ : ∃ b, nameB m.se = b := ⟨_, rfl⟩
      obtain ⟨b1, hb1⟩ : ∃ b, nameB m.ho = b := ⟨_, rfl⟩
      have q3 := QW.out 3 _ rfl
      have q4 := QW.out 4 _ rfl
      have q7 := QW.out 7 _ rfl
      have E : chkB m = (b0 && b1 && decide (m.no.size ≤ 24)) := by
        unfold chkB
        have h := OK.out
        have hi := HI.out
        rw [h 0 (by omega), h 1 (by omega), h 2 (by omega), h 3 (by omega), h 4 (by omega), hb0, hb1]
        rfl
      have EE := Lib.hid E
      clear E
      rw [hb0] at N0
      rw [hb1] at N1
      clear hb0 hb1
      by_cases h24 : (24 : Int) < (m.no.size : Int)
      · have e24 : decide (m.no.size ≤ 24) = false := by simp; omega
        rw [e24] at EE
        go_wp2_with fail
        refine (N0.out _).mono ?_
        rintro e w2 ⟨rfl, k2⟩
        replace q4 := k2.cell q4 (fun f => f)
        replace q7 := k2.cell q7 (fun f => f)
        have K2 := Lib.hid (KF.out.trans k2 (fun _ _ f => f) (fun _ _ f => f) : Kept (fun _ => False) w1 w2)
        clear k2
        cases b0 with
        | false =>
          go_wp2
          go_ret
          exact ⟨by rw [EE.out]; rfl, K1.out.trans K2.out (fun _ _ f => f) (fun _ _ f => f)⟩
        | true =>
          go_wp2_with fail
          refine (N1.out _).mono ?_
          rintro e w3 ⟨rfl, k3⟩
          replace q7 := k3.cell q7 (fun f => f)
          have K3 := Lib.hid (K2.out.trans k3 (fun _ _ f => f) (fun _ _ f => f) : Kept (fun _ => False) w1 w3)
          clear k3
          cases b1 with
          | false =>
            go_wp2
            go_ret
            exact ⟨by rw [EE.out]; rfl, K1.out.trans K3.out (fun _ _ f => f) (fun _ _ f => f)⟩
          | true =>
            go_wp2
            go_ret
            exact ⟨by rw [EE.out]; rfl, K1.out.trans K3.out (fun _ _ f => f) (fun _ _ f => f)⟩
      · have e24 : decide (m.no.size ≤ 24) = true := by simp; omega
        rw [e24] at EE
        go_wp2_with fail
        refine (N0.out _).mono ?_
        rintro e w2 ⟨rfl, k2⟩
        replace q4 := k2.cell q4 (fun f => f)
        replace q7 := k2.cell q7 (fun f => f)
        have K2 := Lib.hid (KF.out.trans k2 (fun _ _ f => f) (fun _ _ f => f) : Kept (fun _ => False) w1 w2)
        clear k2
        cases b0 with
        | false =>
          go_wp2
          go_ret
          exact ⟨by rw [EE.out]; rfl, K1.out.trans K2.out (fun _ _ f => f) (fun _ _ f => f)⟩
        | true =>
          go_wp2_with fail
          refine (N1.out _).mono ?_
          rintro e w3 ⟨rfl, k3⟩
          replace q7 := k3.cell q7 (fun f => f)
          have K3 := Lib.hid (K2.out.trans k3 (fun _ _ f => f) (fun _ _ f => f) : Kept (fun _ => False) w1 w3)
          clear k3
          cases b1 with
          | false =>
            go_wp2
            go_ret
            exact ⟨by rw [EE.out]; rfl, K1.out.trans K3.out (fun _ _ f => f) (fun _ _ f => f)⟩
          | true =>
            go_wp2
            go_ret
            exact ⟨by rw [EE.out]; rfl, K1.out.trans K3.out (fun _ _ f => f) (fun _ _ f => f)⟩
end Go.Proofs.YthkcicilmhpfjaaGreatDoor

/-
  DERIVED: THE SHELF's CONTRACTS AT THIS DUMP, IN PLAIN WORDS (tools/lay-plain.mjs out of 'YthkcicilmhpfjaaGreatDoorShB0.lean', which tools/lay-shelf.mjs wrote): THE SAME DECLARATIONS UNDER THE SAME NAMES: 'import', 'namespace', 'open', 'def', 'theorem' AND NOTHING ELSE: no command of the shelf's: FOR A HAND-IN. Each laying: the table of numbers ('.._ren') and one theorem, a field a fact of the dump's own or the kernel's comparison; each contract: ONE APPLICATION.
-/
namespace Go.Proofs
open Go.Shelf
def Tryz.l129_ren : Go.Shelf.Ren := ⟨fun | 129 => 253 | n => n, fun | 53 => 362 | 3 => 3 | 4 => 4 | 46 => 313 | 5 => 5 | 9 => 9 | n => n, fun | n => n⟩
theorem Tryz.l129 : Go.Proofs.Lays.n129 Tryz.prog Tryz.l129_ren := {
  mixed := by kernel_rfl
  f129 := Tryz.func253.trans (congrArg some (by kernel_rfl))
  t3 := Tryz.underlying3
  a3 := Tryz.isAgg3
  z3 := Tryz.sizeOf3
  v3 := Tryz.zeroValue3
  t4 := Tryz.underlying4
  a4 := Tryz.isAgg4
  z4 := Tryz.sizeOf4
  v4 := Tryz.zeroValue4
  t5 := Tryz.underlying5
  a5 := Tryz.isAgg5
  z5 := Tryz.sizeOf5
  v5 := Tryz.zeroValue5
  t9 := Tryz.underlying9
  a9 := Tryz.isAgg9
  z9 := Tryz.sizeOf9
  v9 := Tryz.zeroValue9
  t46 := Tryz.underlying313
  a46 := Tryz.isAgg313
  z46 := Tryz.sizeOf313
  v46 := Tryz.zeroValue313
  t53 := Tryz.underlying362
  a53 := Tryz.isAgg362
  z53 := Tryz.sizeOf362
  v53 := Tryz.zeroValue362 }
end Go.Proofs

/- ints.Put of any number, by its bytes. -/
namespace Go.Proofs.YthkcicilmhpfjaaGreatDoor
open Go.RowKit Go.Shelf Go.Lib

/-- A number's digits to the base 128, so many, each but the last one marked. -/
def putL : Nat → Int → List Int
  | 0, _ => []
  | 1, n => [n % 128]
  | m + 2, n => (n / 128 ^ (m + 1) % 128 + 128) :: putL (m + 1) n
def putM (n : Int) : Nat := max 1 ((Lib.bitLen n.toNat + 7 - 1) / 7)
def putF (n : Int) : ByteArray := if n < 0 then .empty else strOfNums (putL (putM n) n)

theorem len64 (x : Int) (w : World) (h0 : 0 ≤ x) (h1 : x ≤ 18446744073709551615) :
    Calls Tryz.prog 253 #[.int .u64 x] w fun e w' => e = .returned (.int .i64 (Lib.bitLen x.toNat)) ∧ w' = w := Any.bits_Len64 Tryz.l129 x w h0 h1

theorem or_fin : ∀ x : Fin 256, bits .or .u8 (x.val : Int) 128 = (x.val : Int) % 128 + 128 := by decide +kernel
theorem an_fin : ∀ x : Fin 128, bits .andNot .u8 ((x.val : Int) + 128) 128 = (x.val : Int) := by decide +kernel
theorem or128 (x : Int) : bits .or .u8 (x % 256) 128 = x % 128 + 128 := by
  have h := or_fin ⟨(x % 256).toNat, by omega⟩
  have e : (((x % 256).toNat : Nat) : Int) = x % 256 := by omega
  simp only [e] at h
  rw [h]; omega
theorem an128 (x : Int) : bits .andNot .u8 (x % 128 + 128) 128 = x % 128 := by
  have h := an_fin ⟨(x % 128).toNat, by omega⟩
  have e : (((x % 128).toNat : Nat) : Int) = x % 128 := by omega
  simp only [e] at h
  exact h
theorem conv_bytes (w : World) (l : List Int) :
    (convert 256 9 (.slice (some ⟨w.heap.size, 0, none⟩) l.length l.length)).run Tryz.prog (w.alloc (.cells (l.map (Value.int .u8)).toArray 5)) = .ok (.string (strOfNums l)) (w.alloc (.cells (l.map (Value.int .u8)).toArray 5)) :=
  run_convert_bytes_arg _ 256 5 Tryz.underlying256 Tryz.underlying5 _ 0 l.length l.length l rfl (fun i hi => by
    rw [Nat.zero_add, World.cell?_alloc_at _ _ _ _ rfl]
    simp [hi]) 9 Tryz.underlying9

set_option maxHeartbeats 1000000 in
set_option maxRecDepth 100000 in
theorem put_1 (n : Int) (w : World) (h0 : 0 ≤ n) (h1 : n ≤ 9223372036854775807) (L : Nat) (hL : Lib.bitLen n.toNat = L) (h63 : (L : Int) ≤ 63) (hm : max 1 (((L : Int) + 7 - 1) / 7) = 1) : Calls Tryz.prog 161 #[.int .i64 n] w fun e w' => e = .returned (.string (strOfNums (putL 1 n))) ∧ Kept (fun _ => False) w w' := by
  have C := Lib.hid (len64 n w h0 (by omega))
  rw [hL] at C
  clear hL
  have e1 : ¬ n < 0 := by omega
  have hp : (0 : Int) ≤ (L : Int) := by omega
  have hmk : ∀ w, (Instr.makeSlice 256 (.int .i64 1) (.int .i64 1)).run Tryz.prog w = .ok (.slice (some ⟨w.heap.size, 0, none⟩) 1 1) (w.alloc (.cells #[.int .u8 0] 5)) := fun _ => by kernel_rfl
  go_enter Tryz.func161, Tryz.ntmps161
  go_wp2_with (go_at_call 253; refine C.out.mono ?_; rintro e w4 ⟨rfl, rfl⟩)
  refine wp_loop_rounds 2 ?_
  rw [rounds_succ]; go_wp2
  rw [rounds_succ]; go_wp2
  simp only [or128, an128]
  have cv := conv_bytes w4 (putL 1 n)
  simp only [putL, List.length, List.map, Nat.zero_add] at cv
  rw [cv]
  go_wp2
  go_ret
  exact ⟨rfl, (Kept.refl _ _).alloc _⟩

set_option maxHeartbeats 1000000 in
set_option maxRecDepth 100000 in
theorem put_2 (n : Int) (w : World) (h0 : 0 ≤ n) (h1 : n ≤ 9223372036854775807) (L : Nat) (hL : Lib.bitLen n.toNat = L) (h63 : (L : Int) ≤ 63) (hm : max 1 (((L : Int) + 7 - 1) / 7) = 2) : Calls Tryz.prog 161 #[.int .i64 n] w fun e w' => e = .returned (.string (strOfNums (putL 2 n))) ∧ Kept (fun _ => False) w w' := by
  have C := Lib.hid (len64 n w h0 (by omega))
  rw [hL] at C
  clear hL
  have e1 : ¬ n < 0 := by omega
  have hp : (0 : Int) ≤ (L : Int) := by omega
  have hmk : ∀ w, (Instr.makeSlice 256 (.int .i64 2) (.int .i64 2)).run Tryz.prog w = .ok (.slice (some ⟨w.heap.size, 0, none⟩) 2 2) (w.alloc (.cells #[.int .u8 0, .int .u8 0] 5)) := fun _ => by kernel_rfl
  go_enter Tryz.func161, Tryz.ntmps161
  go_wp2_with (go_at_call 253; refine C.out.mono ?_; rintro e w4 ⟨rfl, rfl⟩)
  refine wp_loop_rounds 3 ?_
  rw [rounds_succ]; go_wp2
  rw [rounds_succ]; go_wp2
  rw [rounds_succ]; go_wp2
  simp only [or128, an128]
  have cv := conv_bytes w4 (putL 2 n)
  simp only [putL, List.length, List.map, Nat.zero_add, Nat.reduceAdd, Int.reducePow] at cv
  rw [cv]
  go_wp2
  go_ret
  exact ⟨rfl, (Kept.refl _ _).alloc _⟩

set_option maxHeartbeats 1000000 in
set_option maxRecDepth 100000 in
theorem put_3 (n : Int) (w : World) (h0 : 0 ≤ n) (h1 : n ≤ 9223372036854775807) (L : Nat) (hL : Lib.bitLen n.toNat = L) (h63 : (L : Int) ≤ 63) (hm : max 1 (((L : Int) + 7 - 1) / 7) = 3) : Calls Tryz.prog 161 #[.int .i64 n] w fun e w' => e = .returned (.string (strOfNums (putL 3 n))) ∧ Kept (fun _ => False) w w' := by
  have C := Lib.hid (len64 n w h0 (by omega))
  rw [hL] at C
  clear hL
  have e1 : ¬ n < 0 := by omega
  have hp : (0 : Int) ≤ (L : Int) := by omega
  have hmk : ∀ w, (Instr.makeSlice 256 (.int .i64 3) (.int .i64 3)).run Tryz.prog w = .ok (.slice (some ⟨w.heap.size, 0, none⟩) 3 3) (w.alloc (.cells #[.int .u8 0, .int .u8 0, .int .u8 0] 5)) := fun _ => by kernel_rfl
  go_enter Tryz.func161, Tryz.ntmps161
  go_wp2_with (go_at_call 253; refine C.out.mono ?_; rintro e w4 ⟨rfl, rfl⟩)
  refine wp_loop_rounds 4 ?_
  rw [rounds_succ]; go_wp2
  rw [rounds_succ]; go_wp2
  rw [rounds_succ]; go_wp2
  rw [rounds_succ]; go_wp2
  simp only [or128, an128]
  have cv := conv_bytes w4 (putL 3 n)
  simp only [putL, List.length, List.map, Nat.zero_add, Nat.reduceAdd, Int.reducePow] at cv
  rw [cv]
  go_wp2
  go_ret
  exact ⟨rfl, (Kept.refl _ _).alloc _⟩

set_option maxHeartbeats 1000000 in
set_option maxRecDepth 100000 in
theorem put_4 (n : Int) (w : World) (h0 : 0 ≤ n) (h1 : n ≤ 9223372036854775807) (L : Nat) (hL : Lib.bitLen n.toNat = L) (h63 : (L : Int) ≤ 63) (hm : max 1 (((L : Int) + 7 - 1) / 7) = 4) : Calls Tryz.prog 161 #[.int .i64 n] w fun e w' => e = .returned (.string (strOfNums (putL 4 n))) ∧ Kept (fun _ => False) w w' := by
  have C := Lib.hid (len64 n w h0 (by omega))
  rw [hL] at C
  clear hL
  have e1 : ¬ n < 0 := by omega
  have hp : (0 : Int) ≤ (L : Int) := by omega
  have hmk : ∀ w, (Instr.makeSlice 256 (.int .i64 4) (.int .i64 4)).run Tryz.prog w = .ok (.slice (some ⟨w.heap.size, 0, none⟩) 4 4) (w.alloc (.cells #[.int .u8 0, .int .u8 0, .int .u8 0, .int .u8 0] 5)) := fun _ => by kernel_rfl
  go_enter Tryz.func161, Tryz.ntmps161
  go_wp2_with (go_at_call 253; refine C.out.mono ?_; rintro e w4 ⟨rfl, rfl⟩)
  refine wp_loop_rounds 5 ?_
  rw [rounds_succ]; go_wp2
  rw [rounds_succ]; go_wp2
  rw [rounds_succ]; go_wp2
  rw [rounds_succ]; go_wp2
  rw [rounds_succ]; go_wp2
  simp only [or128, an128]
  have cv := conv_bytes w4 (putL 4 n)
  simp only [putL, List.length, List.map, Nat.zero_add, Nat.reduceAdd, Int.reducePow] at cv
  rw [cv]
  go_wp2
  go_ret
  exact ⟨rfl, (Kept.refl _ _).alloc _⟩

set_option maxHeartbeats 1000000 in
set_option maxRecDepth 100000 in
theorem put_5 (n : Int) (w : World) (h0 : 0 ≤ n) (h1 : n ≤ 9223372036854775807) (L : Nat) (hL : Lib.bitLen n.toNat = L) (h63 : (L : Int) ≤ 63) (hm : max 1 (((L : Int) + 7 - 1) / 7) = 5) : Calls Tryz.prog 161 #[.int .i64 n] w fun e w' => e = .returned (.string (strOfNums (putL 5 n))) ∧ Kept (fun _ => False) w w' := by
  have C := Lib.hid (len64 n w h0 (by omega))
  rw [hL] at C
  clear hL
  have e1 : ¬ n < 0 := by omega
  have hp : (0 : Int) ≤ (L : Int) := by omega
  have hmk : ∀ w, (Instr.makeSlice 256 (.int .i64 5) (.int .i64 5)).run Tryz.prog w = .ok (.slice (some ⟨w.heap.size, 0, none⟩) 5 5) (w.alloc (.cells #[.int .u8 0, .int .u8 0, .int .u8 0, .int .u8 0, .int .u8 0] 5)) := fun _ => by kernel_rfl
  go_enter Tryz.func161, Tryz.ntmps161
  go_wp2_with (go_at_call 253; refine C.out.mono ?_; rintro e w4 ⟨rfl, rfl⟩)
  refine wp_loop_rounds 6 ?_
  rw [rounds_succ]; go_wp2
  rw [rounds_succ]; go_wp2
  rw [rounds_succ]; go_wp2
  rw [rounds_succ]; go_wp2
  rw [rounds_succ]; go_wp2
  rw [rounds_succ]; go_wp2
  simp only [or128, an128]
  have cv := conv_bytes w4 (putL 5 n)
  simp only [putL, List.length, List.map, Nat.zero_add, Nat.reduceAdd, Int.reducePow] at cv
  rw [cv]
  go_wp2
  go_ret
  exact ⟨rfl, (Kept.refl _ _).alloc _⟩

set_option maxHeartbeats 1000000 in
set_option maxRecDepth 100000 in
theorem put_6 (n : Int) (w : World) (h0 : 0 ≤ n) (h1 : n ≤ 9223372036854775807) (L : Nat) (hL : Lib.bitLen n.toNat = L) (h63 : (L : Int) ≤ 63) (hm : max 1 (((L : Int) + 7 - 1) / 7) = 6) : Calls Tryz.prog 161 #[.int .i64 n] w fun e w' => e = .returned (.string (strOfNums (putL 6 n))) ∧ Kept (fun _ => False) w w' := by
  have C := Lib.hid (len64 n w h0 (by omega))
  rw [hL] at C
  clear hL
  have e1 : ¬ n < 0 := by omega
  have hp : (0 : Int) ≤ (L : Int) := by omega
  have hmk : ∀ w, (Instr.makeSlice 256 (.int .i64 6) (.int .i64 6)).run Tryz.prog w = .ok (.slice (some ⟨w.heap.size, 0, none⟩) 6 6) (w.alloc (.cells #[.int .u8 0, .int .u8 0, .int .u8 0, .int .u8 0, .int .u8 0, .int .u8 0] 5)) := fun _ => by kernel_rfl
  go_enter Tryz.func161, Tryz.ntmps161
  go_wp2_with (go_at_call 253; refine C.out.mono ?_; rintro e w4 ⟨rfl, rfl⟩)
  refine wp_loop_rounds 7 ?_
  rw [rounds_succ]; go_wp2
  rw [rounds_succ]; go_wp2
  rw [rounds_succ]; go_wp2
  rw [rounds_succ]; go_wp2
  rw [rounds_succ]; go_wp2
  rw [rounds_succ]; go_wp2
  rw [rounds_succ]; go_wp2
  simp only [or128, an128]
  have cv := conv_bytes w4 (putL 6 n)
  simp only [putL, List.length, List.map, Nat.zero_add, Nat.reduceAdd, Int.reducePow] at cv
  rw [cv]
  go_wp2
  go_ret
  exact ⟨rfl, (Kept.refl _ _).alloc _⟩

set_option maxHeartbeats 1000000 in
set_option maxRecDepth 100000 in
theorem put_7 (n : Int) (w : World) (h0 : 0 ≤ n) (h1 : n ≤ 9223372036854775807) (L : Nat) (hL : Lib.bitLen n.toNat = L) (h63 : (L : Int) ≤ 63) (hm : max 1 (((L : Int) + 7 - 1) / 7) = 7) : Calls Tryz.prog 161 #[.int .i64 n] w fun e w' => e = .returned (.string (strOfNums (putL 7 n))) ∧ Kept (fun _ => False) w w' := by
  have C := Lib.hid (len64 n w h0 (by omega))
  rw [hL] at C
  clear hL
  have e1 : ¬ n < 0 := by omega
  have hp : (0 : Int) ≤ (L : Int) := by omega
  have hmk : ∀ w, (Instr.makeSlice 256 (.int .i64 7) (.int .i64 7)).run Tryz.prog w = .ok (.slice (some ⟨w.heap.size, 0, none⟩) 7 7) (w.alloc (.cells #[.int .u8 0, .int .u8 0, .int .u8 0, .int .u8 0, .int .u8 0, .int .u8 0, .int .u8 0] 5)) := fun _ => by kernel_rfl
  go_enter Tryz.func161, Tryz.ntmps161
  go_wp2_with (go_at_call 253; refine C.out.mono ?_; rintro e w4 ⟨rfl, rfl⟩)
  refine wp_loop_rounds 8 ?_
  rw [rounds_succ]; go_wp2
  rw [rounds_succ]; go_wp2
  rw [rounds_succ]; go_wp2
  rw [rounds_succ]; go_wp2
  rw [rounds_succ]; go_wp2
  rw [rounds_succ]; go_wp2
  rw [rounds_succ]; go_wp2
  rw [rounds_succ]; go_wp2
  simp only [or128, an128]
  have cv := conv_bytes w4 (putL 7 n)
  simp only [putL, List.length, List.map, Nat.zero_add, Nat.reduceAdd, Int.reducePow] at cv
  rw [cv]
  go_wp2
  go_ret
  exact ⟨rfl, (Kept.refl _ _).alloc _⟩

set_option maxHeartbeats 1000000 in
set_option maxRecDepth 100000 in
theorem put_8 (n : Int) (w : World) (h0 : 0 ≤ n) (h1 : n ≤ 9223372036854775807) (L : Nat) (hL : Lib.bitLen n.toNat = L) (h63 : (L : Int) ≤ 63) (hm : max 1 (((L : Int) + 7 - 1) / 7) = 8) : Calls Tryz.prog 161 #[.int .i64 n] w fun e w' => e = .returned (.string (strOfNums (putL 8 n))) ∧ Kept (fun _ => False) w w' := by
  have C := Lib.hid (len64 n w h0 (by omega))
  rw [hL] at C
  clear hL
  have e1 : ¬ n < 0 := by omega
  have hp : (0 : Int) ≤ (L : Int) := by omega
  have hmk : ∀ w, (Instr.makeSlice 256 (.int .i64 8) (.int .i64 8)).run Tryz.prog w = .ok (.slice (some ⟨w.heap.size, 0, none⟩) 8 8) (w.alloc (.cells #[.int .u8 0, .int .u8 0, .int .u8 0, .int .u8 0, .int .u8 0, .int .u8 0, .int .u8 0, .int .u8 0] 5)) := fun _ => by kernel_rfl
  go_enter Tryz.func161, Tryz.ntmps161
  go_wp2_with (go_at_call 253; refine C.out.mono ?_; rintro e w4 ⟨rfl, rfl⟩)
  refine wp_loop_rounds 9 ?_
  rw [rounds_succ]; go_wp2
  rw [rounds_succ]; go_wp2
  rw [rounds_succ]; go_wp2
  rw [rounds_succ]; go_wp2
  rw [rounds_succ]; go_wp2
  rw [rounds_succ]; go_wp2
  rw [rounds_succ]; go_wp2
  rw [rounds_succ]; go_wp2
  rw [rounds_succ]; go_wp2
  simp only [or128, an128]
  have cv := conv_bytes w4 (putL 8 n)
  simp only [putL, List.length, List.map, Nat.zero_add, Nat.reduceAdd, Int.reducePow] at cv
  rw [cv]
  go_wp2
  go_ret
  exact ⟨rfl, (Kept.refl _ _).alloc _⟩

set_option maxHeartbeats 1000000 in
set_option maxRecDepth 100000 in
theorem put_9 (n : Int) (w : World) (h0 : 0 ≤ n) (h1 : n ≤ 9223372036854775807) (L : Nat) (hL : Lib.bitLen n.toNat = L) (h63 : (L : Int) ≤ 63) (hm : max 1 (((L : Int) + 7 - 1) / 7) = 9) : Calls Tryz.prog 161 #[.int .i64 n] w fun e w' => e = .returned (.string (strOfNums (putL 9 n))) ∧ Kept (fun _ => False) w w' := by
  have C := Lib.hid (len64 n w h0 (by omega))
  rw [hL] at C
  clear hL
  have e1 : ¬ n < 0 := by omega
  have hp : (0 : Int) ≤ (L : Int) := by omega
  have hmk : ∀ w, (Instr.makeSlice 256 (.int .i64 9) (.int .i64 9)).run Tryz.prog w = .ok (.slice (some ⟨w.heap.size, 0, none⟩) 9 9) (w.alloc (.cells #[.int .u8 0, .int .u8 0, .int .u8 0, .int .u8 0, .int .u8 0, .int .u8 0, .int .u8 0, .int .u8 0, .int .u8 0] 5)) := fun _ => by kernel_rfl
  go_enter Tryz.func161, Tryz.ntmps161
  go_wp2_with (go_at_call 253; refine C.out.mono ?_; rintro e w4 ⟨rfl, rfl⟩)
  refine wp_loop_rounds 10 ?_
  rw [rounds_succ]; go_wp2
  rw [rounds_succ]; go_wp2
  rw [rounds_succ]; go_wp2
  rw [rounds_succ]; go_wp2
  rw [rounds_succ]; go_wp2
  rw [rounds_succ]; go_wp2
  rw [rounds_succ]; go_wp2
  rw [rounds_succ]; go_wp2
  rw [rounds_succ]; go_wp2
  rw [rounds_succ]; go_wp2
  have e9 : bits .or .u8 (n / 72057594037927936) 128 = n / 72057594037927936 % 128 + 128 := by
    have := or128 (n / 72057594037927936)
    rwa [show n / 72057594037927936 % 256 = n / 72057594037927936 by omega] at this
  simp only [or128, an128, e9]
  have cv := conv_bytes w4 (putL 9 n)
  simp only [putL, List.length, List.map, Nat.zero_add, Nat.reduceAdd, Int.reducePow] at cv
  rw [cv]
  go_wp2
  go_ret
  exact ⟨rfl, (Kept.refl _ _).alloc _⟩

theorem put_all (n : Int) (w : World) (h1 : n ≤ 9223372036854775807) : Calls Tryz.prog 161 #[.int .i64 n] w fun e w' => e = .returned (.string (putF n)) ∧ Kept (fun _ => False) w w' := by
  unfold putF
  by_cases h : n < 0
  · rw [if_pos h]
    go_enter Tryz.func161, Tryz.ntmps161
    go_wp2
    go_ret
    exact ⟨rfl, Kept.refl _ _⟩
  rw [if_neg h]
  have h0 : 0 ≤ n := by omega
  have hb : Lib.bitLen n.toNat ≤ 63 := Lib.bitLen_le _ 63 (by omega) (by omega)
  by_cases g1 : max 1 ((((Lib.bitLen n.toNat : Nat) : Int) + 7 - 1) / 7) = 1
  · have e : putM n = 1 := by unfold putM; omega
    rw [e]
    exact put_1 n w h0 h1 _ rfl (by omega) g1
  by_cases g2 : max 1 ((((Lib.bitLen n.toNat : Nat) : Int) + 7 - 1) / 7) = 2
  · have e : putM n = 2 := by unfold putM; omega
    rw [e]
    exact put_2 n w h0 h1 _ rfl (by omega) g2
  by_cases g3 : max 1 ((((Lib.bitLen n.toNat : Nat) : Int) + 7 - 1) / 7) = 3
  · have e : putM n = 3 := by unfold putM; omega
    rw [e]
    exact put_3 n w h0 h1 _ rfl (by omega) g3
  by_cases g4 : max 1 ((((Lib.bitLen n.toNat : Nat) : Int) + 7 - 1) / 7) = 4
  · have e : putM n = 4 := by unfold putM; omega
    rw [e]
    exact put_4 n w h0 h1 _ rfl (by omega) g4
  by_cases g5 : max 1 ((((Lib.bitLen n.toNat : Nat) : Int) + 7 - 1) / 7) = 5
  · have e : putM n = 5 := by unfold putM; omega
    rw [e]
    exact put_5 n w h0 h1 _ rfl (by omega) g5
  by_cases g6 : max 1 ((((Lib.bitLen n.toNat : Nat) : Int) + 7 - 1) / 7) = 6
  · have e : putM n = 6 := by unfold putM; omega
    rw [e]
    exact put_6 n w h0 h1 _ rfl (by omega) g6
  by_cases g7 : max 1 ((((Lib.bitLen n.toNat : Nat) : Int) + 7 - 1) / 7) = 7
  · have e : putM n = 7 := by unfold putM; omega
    rw [e]
    exact put_7 n w h0 h1 _ rfl (by omega) g7
  by_cases g8 : max 1 ((((Lib.bitLen n.toNat : Nat) : Int) + 7 - 1) / 7) = 8
  · have e : putM n = 8 := by unfold putM; omega
    rw [e]
    exact put_8 n w h0 h1 _ rfl (by omega) g8
  by_cases g9 : max 1 ((((Lib.bitLen n.toNat : Nat) : Int) + 7 - 1) / 7) = 9
  · have e : putM n = 9 := by unfold putM; omega
    rw [e]
    exact put_9 n w h0 h1 _ rfl (by omega) g9
  omega
end Go.Proofs.YthkcicilmhpfjaaGreatDoor

/-
  DERIVED: THE SHELF's CONTRACTS AT THIS DUMP, IN PLAIN WORDS (tools/lay-plain.mjs out of 'YthkcicilmhpfjaaGreatDoorShW0.lean', which tools/lay-shelf.mjs wrote): THE SAME DECLARATIONS UNDER THE SAME NAMES: 'import', 'namespace', 'open', 'def', 'theorem' AND NOTHING ELSE: no command of the shelf's: FOR A HAND-IN. Each laying: the table of numbers ('.._ren') and one theorem, a field a fact of the dump's own or the kernel's comparison; each contract: ONE APPLICATION.
-/
namespace Go.Proofs
open Go.Shelf
def Tryz.l169_ren : Go.Shelf.Ren := ⟨fun | 169 => 162 | n => n, fun | 70 => 255 | 9 => 9 | 0 => 0 | 72 => 258 | 37 => 256 | 127 => 363 | 3 => 3 | 5 => 5 | n => n, fun | n => n⟩
theorem Tryz.l169 : Go.Proofs.Lays.n169 Tryz.prog Tryz.l169_ren := {
  mixed := by kernel_rfl
  f169 := Tryz.func162.trans (congrArg some (by kernel_rfl))
  t0 := Tryz.underlying0
  a0 := Tryz.isAgg0
  z0 := Tryz.sizeOf0
  v0 := Tryz.zeroValue0
  t3 := Tryz.underlying3
  a3 := Tryz.isAgg3
  z3 := Tryz.sizeOf3
  v3 := Tryz.zeroValue3
  t9 := Tryz.underlying9
  a9 := Tryz.isAgg9
  z9 := Tryz.sizeOf9
  v9 := Tryz.zeroValue9
  t37 := Tryz.underlying256
  a37 := Tryz.isAgg256
  z37 := Tryz.sizeOf256
  v37 := Tryz.zeroValue256
  t70 := Tryz.underlying255
  a70 := Tryz.isAgg255
  z70 := Tryz.sizeOf255
  v70 := Tryz.zeroValue255
  t72 := Tryz.underlying258
  a72 := Tryz.isAgg258
  z72 := Tryz.sizeOf258
  v72 := Tryz.zeroValue258
  t127 := Tryz.underlying363
  a127 := Tryz.isAgg363
  z127 := Tryz.sizeOf363
  v127 := Tryz.zeroValue363 }
end Go.Proofs

/- strings.Builder: copyCheck, WriteString, String. -/
namespace Go.Proofs.YthkcicilmhpfjaaGreatDoor
open Go.RowKit Go.Lib

theorem bExtra : Builder.Extra Tryz.prog Tryz.l169_ren := {
  sizeBuilder := by kernel_rfl
  liesBuilder := by kernel_rfl
  t5 := Tryz.underlying5
  a5 := Tryz.isAgg5
  z5 := Tryz.sizeOf5
  v5 := Tryz.zeroValue5
  infoByte := by kernel_rfl
  cellsByte := by kernel_rfl
  sizeByte := by kernel_rfl
  neB5 := by decide }

theorem copy_all (B b : Nat) (bs : List Value) (w : World) (h : Lib.IsBuilder 258 5 B b bs w) :
    Calls Tryz.prog 252 #[.pointer (some ⟨b, 0, none⟩)] w fun e w' => e = .returned (.tuple #[]) ∧ Lib.BuilderAt 258 5 B b (.pointer (some ⟨b, 0, none⟩)) bs w' ∧ Below B w w' := by
  rcases h with h | h
  · refine (copy_fresh b 0 2 w h.cell0 h.shape (by decide) (by kernel_rfl) h.frozen0).mono ?_
    rintro e w' ⟨rfl, rfl⟩
    exact ⟨rfl, h.used _, (Below.refl B w).setCell (p := ⟨b, 0, none⟩) h.1 _⟩
  · refine (copy_used b 0 w h.cell0).mono ?_
    rintro e w' ⟨rfl, rfl⟩
    exact ⟨rfl, h, Below.refl B _⟩

set_option maxHeartbeats 2000000 in
set_option maxRecDepth 100000 in
theorem wri_all (B b : Nat) (bs : List Value) (s : ByteArray) (w : World) (h : Lib.IsBuilder 258 5 B b bs w) (hlen : bs.length + s.size ≤ 140737488355328) (hBw : B ≤ w.heap.size) :
    Calls Tryz.prog 159 #[.pointer (some ⟨b, 0, none⟩), .string s] w fun e w' => e = .returned (.tuple #[.int .i64 s.size, .nilIface]) ∧ (Lib.BuilderAt 258 5 B b (.pointer (some ⟨b, 0, none⟩)) (bs ++ Lib.strCells s) w' ∧ Below B w w') := by
  obtain ⟨i0, hi, hz0, hz1, hz2⟩ := info_parts bExtra.infoByte
  go_enter Tryz.func159, Tryz.ntmps159
  go_wp2_with (go_at_call 252; refine (copy_all B b bs _ h).mono ?_)
  rintro e w1 ⟨rfl, h1, hb1⟩
  obtain ⟨hB, v, hbk, hown, hne⟩ := h1
  have c0 : w1.cell? ⟨b, 0, none⟩ = some (.pointer (some ⟨b, 0, none⟩)) := by rw [Lib.cell_of_heap hbk]; rfl
  have c1 : w1.cell? ⟨b, 1, none⟩ = some v := by rw [Lib.cell_of_heap hbk]; rfl
  go_wp2_with (at_builtin; refine Lib.wpList_append_own_string _ rfl _ _ 256 9 rfl B 5 i0 Tryz.underlying256 Tryz.underlying9 hi hz0 hz1 hz2 _ _ _ rfl hown s rfl ?c3 ?c4 ?c5 ?_)
  case c3 => unfold maxLen; omega
  case c4 => omega
  case c5 => have := hb1.size; omega
  intro v' w2 hown' hgrow _
  have hlt : b < w1.heap.size := by
    rcases Nat.lt_or_ge b w1.heap.size with h' | h'
    · exact h'
    · simp [Array.getElem?_eq_none h'] at hbk
  have hb2 : w2.heap[b]? = some (.cells #[.pointer (some ⟨b, 0, none⟩), v] 258 (0, 0)) := by
    rw [hgrow.block b hlt (fun e => hne e.symm)]
    exact hbk
  have d0 : w2.cell? ⟨b, 0, none⟩ = some (.pointer (some ⟨b, 0, none⟩)) := by rw [Lib.cell_of_heap hb2]; rfl
  have d1 : w2.cell? ⟨b, 1, none⟩ = some v := by rw [Lib.cell_of_heap hb2]; rfl
  have f1 : w2.frozen? ⟨b, 1, none⟩ = false := Lib.frozen_of_heap hb2 1
  obtain ⟨ao, n', cap, rfl⟩ : ∃ ao n' cap, v' = .slice ao n' cap := by
    rcases hown'.2 with ⟨hv, _⟩ | ⟨g, cap, cur, hv, _⟩
    · exact ⟨_, _, _, hv⟩
    · exact ⟨_, _, _, hv⟩
  go_wp2
  go_ret2
  refine ⟨rfl, ?_, ?_⟩
  · exact Lib.BuilderAt.put (T := 258) (e := 5) hB hb2 (bs' := bs ++ Lib.strCells s) (by simpa [Lib.strCells_length] using hown') bExtra.neB5
  · exact (hb1.grown hgrow (by have := hb1.size; omega) (fun k hk => (hown.lt k hk).1)).setCell (p := ⟨b, 1, none⟩) hB _

theorem str_all (B b : Nat) (l : List UInt8) (w : World) (h : Lib.IsBuilder 258 5 B b (Lib.byteCells l) w) (hBw : B ≤ w.heap.size) :
    Calls Tryz.prog 162 #[.pointer (some ⟨b, 0, none⟩)] w fun e w' => e = .returned (.string ⟨l.toArray⟩) ∧ Below B w w' := Any.Builder_String_any Tryz.l169 bExtra B b l w h hBw
end Go.Proofs.YthkcicilmhpfjaaGreatDoor

/- spans.Encode of any span. -/
namespace Go.Proofs.YthkcicilmhpfjaaGreatDoor
open Go.RowKit Go.Lib

theorem putL_length : ∀ (m : Nat) (n : Int), (putL m n).length = m
  | 0, _ => rfl
  | 1, _ => rfl
  | m + 2, n => by simp [putL, putL_length (m + 1) n]
theorem putF_size (n : Int) : (putF n).size ≤ 10 := by
  unfold putF
  split
  · exact Nat.zero_le _
  · rw [strOfNums_size, putL_length]
    unfold putM
    have h : Lib.bitLenAux 64 n.toNat ≤ 64 := by
      have g : ∀ f x, Lib.bitLenAux f x ≤ f := by
        intro f
        induction f with
        | zero => intro x; exact Nat.le_refl _
        | succ f ih => intro x; unfold Lib.bitLenAux; split; omega; have := ih (x / 2); omega
      exact g 64 _
    unfold Lib.bitLen
    omega
/-- A text, with its length ahead. -/
def ptxt (t : ByteArray) : ByteArray := putF t.size ++ t
theorem ptxt_size (t : ByteArray) : (ptxt t).size ≤ t.size + 10 := by
  have := putF_size t.size
  unfold ptxt
  rw [ByteArray.size_append]
  omega
set_option maxRecDepth 100000 in
theorem puttext_all (t : ByteArray) (w : World) (h : t.size ≤ 4294967296) : Calls Tryz.prog 160 #[.string t] w fun e w' => e = .returned (.string (ptxt t)) ∧ Kept (fun _ => False) w w' := by
  have C := Lib.hid (put_all (t.size : Int) w (by omega))
  have z := putF_size t.size
  unfold ptxt
  go_enter Tryz.func160, Tryz.ntmps160
  go_wp2_with (go_at_call 161; refine C.out.mono ?_; rintro e w4 ⟨rfl, k4⟩)
  go_ret
  exact ⟨rfl, k4⟩

def textsV (p : Nat) : Value := .agg #[.pointer (some ⟨p, 3, none⟩), .pointer (some ⟨p, 4, none⟩), .pointer (some ⟨p, 7, none⟩)]
def offT : Nat → Nat | 0 => 3 | 1 => 4 | _ => 7
def textJ (m : Spn) : Nat → ByteArray | 0 => m.se | 1 => m.ho | _ => m.no
theorem ixT (p j : Nat) (hj : j < 3) (W : World) : (Instr.index 419 (textsV p) (.int .i64 (j : Int))).run Tryz.prog W = .ok (.pointer (some ⟨p, offT j, none⟩)) W := by
  obtain rfl | rfl | rfl : j = 0 ∨ j = 1 ∨ j = 2 := by omega
  all_goals kernel_rfl
theorem SpanAt.text {w : World} {g : Nat} {m : Spn} (h : SpanAt w g m) (j : Nat) : w.cell? ⟨g, offT j, none⟩ = some (.string (textJ m j)) := by
  match j with
  | 0 => exact h 3 _ rfl
  | 1 => exact h 4 _ rfl
  | j + 2 => exact h 7 _ rfl
set_option maxHeartbeats 4000000 in
set_option maxRecDepth 100000 in
theorem texts_any (p : Nat) (w : World) : Calls Tryz.prog 323 #[.pointer (some ⟨p, 0, none⟩)] w fun e w' => e = .returned (textsV p) ∧ Kept (fun _ => False) w w' := by
  go_enter Tryz.func323, Tryz.ntmps323
  go_wp2
  go_region
  all_goals go_wp2
  refine bodyPost_ret (v := _) (by simp [results, Tryz.results323, go_sem]; try rfl) rfl ?_
  exact ⟨rfl, ((Kept.refl _ w).alloc _).drew⟩

def accN (m : Spn) : Nat → List UInt8
  | 0 => []
  | i + 1 => accN m i ++ (putF (numJ m i)).data.toList
def accT (m : Spn) : Nat → List UInt8
  | 0 => accN m 5
  | i + 1 => accT m i ++ (ptxt (textJ m i)).data.toList
def encF (m : Spn) : ByteArray := ⟨(accT m 3).toArray⟩
theorem data_length (b : ByteArray) : b.data.toList.length = b.size := Array.length_toList
theorem accN_length (m : Spn) : ∀ i, (accN m i).length ≤ 10 * i
  | 0 => Nat.le_refl _
  | i + 1 => by
    have h := accN_length m i
    have z := putF_size (numJ m i)
    simp only [accN, List.length_append, data_length]
    omega
theorem accT_length (m : Spn) (h : ∀ j, (textJ m j).size ≤ 24) : ∀ i, (accT m i).length ≤ 50 + 34 * i
  | 0 => accN_length m 5
  | i + 1 => by
    have q := accT_length m h i
    have z := ptxt_size (textJ m i)
    have y := h i
    simp only [accT, List.length_append, data_length]
    omega

theorem kept_grown {w w' : World} (K : Kept (fun _ => False) w w') : w.grownBy w' none := ⟨K.os, K.tape, K.output, K.size, fun k hk _ => K.block k hk (fun h => h)⟩
theorem BuilderAt.keptF {T e : TypeId} {B b : Nat} {p : Value} {bs : List Value} {w w' : World} (h : Lib.BuilderAt T e B b p bs w) (K : Kept (fun _ => False) w w') : Lib.BuilderAt T e B b p bs w' := by
  have hl := Lib.BuilderAt.lt h
  obtain ⟨hB, v, hb, ho, hn⟩ := h
  refine ⟨hB, v, (K.block b hl (fun h => h)).trans hb, ho.kept (kept_grown K) ?_, hn⟩
  cases v.ownBlock with
  | none => exact .inl rfl
  | some k => exact .inr (fun h => by cases h)
theorem below_kept {B : Nat} {w w' : World} (h : Below B w w') : Kept (fun k => B ≤ k) w w' := ⟨h.os, h.tape, h.output, h.size, fun k _ hS => h.block k (Nat.lt_of_not_le hS)⟩
theorem IsBuilder.keptF {T e : TypeId} {B b : Nat} {bs : List Value} {w w' : World} (h : Lib.IsBuilder T e B b bs w) (K : Kept (fun _ => False) w w') : Lib.IsBuilder T e B b bs w' := h.elim (fun h => .inl (BuilderAt.keptF h K)) (fun h => .inr (BuilderAt.keptF h K))
end Go.Proofs.YthkcicilmhpfjaaGreatDoor

/- spans.Encode of any span. -/
namespace Go.Proofs.YthkcicilmhpfjaaGreatDoor
open Go.RowKit Go.Lib

set_option maxHeartbeats 4000000 in
set_option maxRecDepth 100000 in
theorem enc_bad (m : Spn) (hs : m.se.size ≤ 9223372036854775807) (hh : m.ho.size ≤ 9223372036854775807) (hn : m.no.size ≤ 9223372036854775807) (hB : chkB m = false) (w : World) :
    Calls Tryz.prog 219 #[aggS m] w fun e w' => e = .returned (.tuple #[.string .empty, .int .i64 2]) ∧ Kept (fun _ => False) w w' := by
  have C := Lib.hid (check_all m hs hh hn)
  rw [hB] at C
  unfold aggS at C ⊢
  go_enter Tryz.func219, Tryz.ntmps219
  go_wp2_with (go_at_call 72; refine (C.out _).mono ?_; rintro e w1 ⟨rfl, k1⟩)
  go_ret2
  exact ⟨rfl, ((Kept.refl _ w).alloc _).trans k1 (fun _ _ f => f) (fun _ _ f => f)⟩

set_option maxHeartbeats 8000000 in
set_option maxRecDepth 100000 in
theorem enc_good (m : Spn) (hs : m.se.size ≤ 12) (hh : m.ho.size ≤ 12) (hn : m.no.size ≤ 24) (hnum : ∀ j, numJ m j ≤ 9223372036854775807) (hB : chkB m = true) (w : World) :
    Calls Tryz.prog 219 #[aggS m] w fun e w' => e = .returned (.tuple #[.string (encF m), .int .i64 0]) ∧ Kept (fun _ => False) w w' := by
  have C := Lib.hid (check_all m (by omega) (by omega) (by omega))
  have ht : ∀ j, (textJ m j).size ≤ 24 := fun j => by
    match j with
    | 0 => show m.se.size ≤ 24; omega
    | 1 => show m.ho.size ≤ 24; omega
    | j + 2 => show m.no.size ≤ 24; omega
  have HN := Lib.hid (accN_length m)
  have HT := Lib.hid (accT_length m ht)
  have TJ := Lib.hid ht
  have NJ := Lib.hid hnum
  clear ht hnum
  rw [hB] at C
  unfold aggS at C ⊢
  go_enter Tryz.func219, Tryz.ntmps219
  go_wp2_with fail
  obtain ⟨W, hW⟩ : ∃ W, w.alloc (.cells #[.int .i64 m.tr, .int .i64 m.id, .int .i64 m.pa, .string m.se, .string m.ho, .int .i64 m.st, .int .i64 m.du, .string m.no] 111) = W := ⟨_, rfl⟩
  have K0 : Kept (fun _ => False) w W := by rw [← hW]; exact (Kept.refl _ w).alloc _
  have q0 : SpanAt W w.heap.size m := by rw [← hW]; exact SpanAt.new
  rw [hW]
  clear hW
  refine (C.out W).mono ?_
  rintro e w1 ⟨rfl, k1⟩
  have K1 := Lib.hid (K0.trans k1 (fun _ _ f => f) (fun _ _ f => f) : Kept (fun _ => False) w w1)
  have Q1 := Lib.hid (q0.keptF k1)
  clear k1 K0 q0 C
  obtain ⟨p, hp⟩ : ∃ p, w.heap.size = p := ⟨_, rfl⟩
  rw [hp] at Q1 ⊢
  have HP := Lib.hid hp
  clear hp
  go_wp2_with fail
  have LB : p < w1.heap.size := World.block_lt_of_cell? _ _ (Q1.out.num 0)
  have b0 := Lib.hid (Lib.fresh_isBuilder 258 5 w1)
  have L0 := Lib.hid ((Below.refl w1.heap.size w1).alloc' (Nat.le_refl _) (.cells #[.pointer none, .slice none 0 0] 258))
  have BB := Lib.hid (Nat.le_refl w1.heap.size)
  obtain ⟨W4, hW4⟩ : ∃ W4, w1.alloc (.cells #[.pointer none, .slice none 0 0] 258) = W4 := ⟨_, rfl⟩
  rw [hW4] at b0 L0 ⊢
  clear hW4
  obtain ⟨B, hBB⟩ : ∃ B, w1.heap.size = B := ⟨_, rfl⟩
  rw [hBB] at LB b0 L0 BB ⊢
  have BW := Lib.hid (Nat.le_of_eq hBB.symm)
  clear hBB
  refine (numbers_any p W4).mono ?_
  rintro e w5 ⟨rfl, k5⟩
  have L5 := Lib.hid (L0.out.step BW.out k5 (fun _ f => f.elim))
  have b5 := Lib.hid (IsBuilder.keptF b0.out k5)
  clear L0 b0 k5 BB
  obtain ⟨nv, hnv⟩ : ∃ nv, numsV p = nv := ⟨_, rfl⟩
  have X := Lib.hid (ixJ p)
  rw [hnv] at X ⊢
  clear hnv
  go_wp2
  go_loopg [16] 5 (fun g t wr => ∃ i : Nat, i + g = 5 ∧ t = .int .i64 i ∧ Below B w1 wr ∧ Lib.IsBuilder 258 5 B B (Lib.byteCells (accN m i)) wr)
  case atStart => exact ⟨0, by omega, rfl, L5.out, b5.out⟩
  case round =>
    obtain ⟨i, hi, rfl, hLW, hbW⟩ := hrel
    have LW := Lib.hid hLW
    have bW := Lib.hid hbW
    have HI := Lib.hid hi
    have QW := Lib.hid (Q1.out.kept (below_kept hLW) (by omega))
    clear hi hLW hbW
    by_cases h5 : i < 5
    · have i1 : (i : Int) < 5 := by omega
      have x0 := X.out i h5
      obtain ⟨l, hl⟩ : ∃ l, leastJ i = l := ⟨_, rfl⟩
      obtain ⟨u, hu⟩ : ∃ u, mostJ i = u := ⟨_, rfl⟩
      obtain ⟨o, ho⟩ : ∃ o, offJ i = o := ⟨_, rfl⟩
      have qq := QW.out.num i
      have qa : ∀ ob, (wr.alloc ob).cell? ⟨p, offJ i, none⟩ = some (.int .i64 (numJ m i)) := fun ob => ((Kept.refl (fun _ => False) wr).alloc ob).cell qq (fun f => f)
      rw [ho] at qq qa
      rw [hl, hu, ho] at x0
      clear hl hu ho
      go_wp2_with (first | (go_at_call 161; refine (put_all _ _ (NJ.out i)).mono ?_; rintro e w6 ⟨rfl, k6⟩; have L6 := Lib.hid ((LW.out.alloc' BW.out _).step BW.out k6 (fun _ f => f.elim)); have b6 := Lib.hid (IsBuilder.keptF (IsBuilder.keptF bW.out ((Kept.refl _ _).alloc _)) k6); clear k6) | (go_at_call 159; refine (wri_all B B _ _ _ b6.out (by rw [Lib.byteCells_length]; have := HN.out i; have := putF_size (numJ m i); omega) (Nat.le_trans BW.out L6.out.size)).mono ?_; rintro e w7 ⟨rfl, b7, l7⟩; have B7 := Lib.hid b7; have L7 := Lib.hid (L6.out.trans l7); clear b7 l7))
      go_roundg (5 - i - 1)
      case measure => have := HI.out; omega
      case rel => exact ⟨i + 1, by omega, by go_num, L7.out, .inr (by have := B7.out; rw [Lib.strCells_eq, ← Lib.byteCells_append] at this; exact this)⟩
    · have h5' : i = 5 := by have := HI.out; omega
      subst h5'
      go_wp2_with fail
      refine (texts_any p wr).mono ?_
      rintro e w8 ⟨rfl, k8⟩
      have L8 := Lib.hid (LW.out.step BW.out k8 (fun _ f => f.elim))
      have b8 := Lib.hid (IsBuilder.keptF bW.out k8)
      clear LW bW k8 QW HI h5
      obtain ⟨tv, htv⟩ : ∃ tv, textsV p = tv := ⟨_, rfl⟩
      have X2 := Lib.hid (ixT p)
      rw [htv] at X2 ⊢
      clear htv
      go_wp2
      go_loopg [27] 3 (fun g t wr => ∃ i : Nat, i + g = 3 ∧ t = .int .i64 i ∧ Below B w1 wr ∧ Lib.IsBuilder 258 5 B B (Lib.byteCells (accT m i)) wr)
      case atStart => exact ⟨0, by omega, rfl, L8.out, b8.out⟩
      case round =>
        obtain ⟨i, hi, rfl, hLW, hbW⟩ := hrel
        rename_i wv _
        have LW := Lib.hid hLW
        have bW := Lib.hid hbW
        have HI := Lib.hid hi
        have QW := Lib.hid (Q1.out.kept (below_kept hLW) (by omega))
        clear hi hLW hbW
        by_cases h3 : i < 3
        · have i1 : (i : Int) < 3 := by omega
          have x0 := X2.out i h3
          have qq := QW.out.text i
          obtain ⟨o, ho⟩ : ∃ o, offT i = o := ⟨_, rfl⟩
          obtain ⟨tx, htx⟩ : ∃ tx, textJ m i = tx := ⟨_, rfl⟩
          rw [ho, htx] at qq
          rw [ho] at x0
          have TX := Lib.hid htx
          have tz : tx.size ≤ 24 := by rw [← htx]; exact TJ.out i
          clear ho htx
          go_wp2_with (first | (go_at_call 160; refine (puttext_all _ _ (by omega)).mono ?_; rintro e w9 ⟨rfl, k9⟩; have L9 := Lib.hid (LW.out.step BW.out k9 (fun _ f => f.elim)); have b9 := Lib.hid (IsBuilder.keptF bW.out k9); clear k9) | (go_at_call 159; refine (wri_all B B _ _ _ b9.out (by rw [Lib.byteCells_length]; have := HT.out i; have := ptxt_size tx; omega) (Nat.le_trans BW.out L9.out.size)).mono ?_; rintro e w10 ⟨rfl, b10, l10⟩; have B10 := Lib.hid b10; have L10 := Lib.hid (L9.out.trans l10); clear b10 l10))
          go_roundg (3 - i - 1)
          case measure => have := HI.out; omega
          case rel => exact ⟨i + 1, by omega, by go_num, L10.out, .inr (by have := B10.out; rw [← TX.out, Lib.strCells_eq, ← Lib.byteCells_append] at this; exact this)⟩
        · have h3' : i = 3 := by have := HI.out; omega
          subst h3'
          go_wp2_with (go_at_call 162; refine (str_all B B _ _ bW.out (Nat.le_trans BW.out LW.out.size)).mono ?_; rintro e w11 ⟨rfl, l11⟩; have L11 := Lib.hid (LW.out.trans l11); clear l11)
          go_ret2
          refine ⟨rfl, K1.out.trans (below_kept L11.out) (fun _ _ f => f) (fun k hk f => by have := HP.out; omega)⟩

/-- What is told of a span: its bytes, if it may be. -/
def encR (m : Spn) : ByteArray := match chkB m with | true => encF m | false => .empty
theorem enc_all (m : Spn) (hs : m.se.size ≤ 9223372036854775807) (hh : m.ho.size ≤ 9223372036854775807) (hn : m.no.size ≤ 9223372036854775807) (w : World) :
    Calls Tryz.prog 219 #[aggS m] w fun e w' => e = .returned (.tuple #[.string (encR m), .int .i64 (errN (chkB m))]) ∧ Kept (fun _ => False) w w' := by
  unfold encR
  cases hB : chkB m with
  | false => exact enc_bad m hs hh hn hB w
  | true =>
    have h := hB
    unfold chkB at h
    simp only [Bool.and_eq_true, decide_eq_true_eq] at h
    obtain ⟨⟨⟨⟨⟨⟨⟨h0, h1⟩, h2⟩, h3⟩, h4⟩, h5⟩, h6⟩, h7⟩ := h
    have nm : ∀ {s : ByteArray}, nameB s = true → s.size ≤ 12 := fun {s} h => by
      unfold nameB at h
      simp only [Bool.and_eq_true, decide_eq_true_eq] at h
      exact h.1.2
    have g := chk_num hB
    refine enc_good m (nm h5) (nm h6) h7 (fun j => ?_) hB w
    match j with
    | 0 => show m.tr ≤ _; omega
    | 1 => show m.id ≤ _; omega
    | 2 => show m.pa ≤ _; omega
    | 3 => show m.st ≤ _; omega
    | j + 4 => show m.du ≤ _; omega
end Go.Proofs.YthkcicilmhpfjaaGreatDoor

/- posts.EncodeBatch of any batch. -/
namespace Go.Proofs.YthkcicilmhpfjaaGreatDoor
open Go.RowKit Go.Lib

def hostB (n : Int) : Bool := decide (0 ≤ n) && decide (n < 4)
def recB (n : Int) : Bool := decide (0 ≤ n) && decide (n ≤ 2147483647)
theorem host_all (n : Int) (w : World) : Calls Tryz.prog 216 #[.int .i64 n] w fun e w' => e = .returned (.bool (hostB n)) ∧ w' = w := by
  unfold hostB
  by_cases h0 : 0 ≤ n
  · by_cases h1 : n < 4
    · go_enter Tryz.func216, Tryz.ntmps216
      go_wp2
      go_ret
      exact ⟨by simp [h0, h1], rfl⟩
    · go_enter Tryz.func216, Tryz.ntmps216
      go_wp2
      go_ret
      exact ⟨by simp [h1], rfl⟩
  · go_enter Tryz.func216, Tryz.ntmps216
    go_wp2
    go_ret
    exact ⟨by simp; omega, rfl⟩
theorem rec_all (n : Int) (w : World) : Calls Tryz.prog 217 #[.int .i64 n] w fun e w' => e = .returned (.bool (recB n)) ∧ w' = w := by
  unfold recB
  by_cases h0 : 0 ≤ n
  · by_cases h1 : n ≤ 2147483647
    · go_enter Tryz.func217, Tryz.ntmps217
      go_wp2
      go_ret
      exact ⟨by simp [h0, h1], rfl⟩
    · go_enter Tryz.func217, Tryz.ntmps217
      go_wp2
      go_ret
      exact ⟨by simp [h1], rfl⟩
  · go_enter Tryz.func217, Tryz.ntmps217
    go_wp2
    go_ret
    exact ⟨by simp; omega, rfl⟩

set_option maxHeartbeats 1000000 in
set_option maxRecDepth 100000 in
theorem puts3 {x : ByteArray} {a b c : Int} {g o cap : Nat} {w : World} (hx : x.size ≤ 1000) (ha : a ≤ 9223372036854775807) (hb : b ≤ 9223372036854775807) (hc : c ≤ 9223372036854775807)
    (c0 : w.cell? ⟨g, o, none⟩ = some (.int .i64 a)) (c1 : w.cell? ⟨g, o + 1, none⟩ = some (.int .i64 b)) (c2 : w.cell? ⟨g, o + 2, none⟩ = some (.int .i64 c)) :
    Calls Tryz.prog 218 #[.string x, .slice (some ⟨g, o, none⟩) 3 cap] w fun e w' => e = .returned (.string (x ++ putF a ++ putF b ++ putF c)) ∧ Kept (fun _ => False) w w' := by
  have P0 := Lib.hid (fun w => put_all a w ha)
  have P1 := Lib.hid (fun w => put_all b w hb)
  have P2 := Lib.hid (fun w => put_all c w hc)
  have tt : ∀ {a b c : World}, Kept (fun _ => False) a b → Kept (fun _ => False) b c → Kept (fun _ => False) a c := fun h k => h.trans k (fun _ _ h => h) (fun _ _ h => h)
  have z0 := putF_size a
  have z1 := putF_size b
  have z2 := putF_size c
  obtain ⟨A, hA⟩ : ∃ A, putF a = A := ⟨_, rfl⟩
  obtain ⟨B, hB⟩ : ∃ B, putF b = B := ⟨_, rfl⟩
  obtain ⟨D, hD⟩ : ∃ D, putF c = D := ⟨_, rfl⟩
  rw [hA] at P0 z0 ⊢
  rw [hB] at P1 z1 ⊢
  rw [hD] at P2 z2 ⊢
  clear hA hB hD
  go_enter Tryz.func218, Tryz.ntmps218
  go_wp2
  refine wp_loop_rounds 4 ?_
  rw [rounds_succ]
  go_wp2_with (go_at_call 161; refine (P0.out _).mono ?_; rintro e w1 ⟨rfl, k1⟩; have c1 := k1.cell c1 (fun f => f); have c2 := k1.cell c2 (fun f => f); have K1 := Lib.hid k1; clear k1)
  rw [rounds_succ]
  go_wp2_with (go_at_call 161; refine (P1.out _).mono ?_; rintro e w2 ⟨rfl, k2⟩; have c2 := k2.cell c2 (fun f => f); have K2 := Lib.hid (tt K1.out k2); clear k2)
  rw [rounds_succ]
  go_wp2_with (go_at_call 161; refine (P2.out _).mono ?_; rintro e w3 ⟨rfl, k3⟩; have K3 := Lib.hid (tt K2.out k3); clear k3)
  rw [rounds_succ]
  go_wp2
  go_ret
  exact ⟨rfl, K3.out⟩

theorem encF_size {m : Spn} (h : chkB m = true) : (encF m).size ≤ 152 := by
  have g := h
  unfold chkB at g
  simp only [Bool.and_eq_true, decide_eq_true_eq] at g
  obtain ⟨⟨⟨⟨⟨⟨⟨_, _⟩, _⟩, _⟩, _⟩, h5⟩, h6⟩, h7⟩ := g
  have nm : ∀ {s : ByteArray}, nameB s = true → s.size ≤ 12 := fun {s} h => by
    unfold nameB at h
    simp only [Bool.and_eq_true, decide_eq_true_eq] at h
    exact h.1.2
  have q := accT_length m (fun j => by
    match j with
    | 0 => show m.se.size ≤ 24; have := nm h5; omega
    | 1 => show m.ho.size ≤ 24; have := nm h6; omega
    | j + 2 => show m.no.size ≤ 24; omega) 3
  unfold encF
  show (accT m 3).toArray.size ≤ 152
  simpa using q
/-- The bytes of so many spans, each with its length ahead, behind what is there. -/
def accB (x : ByteArray) (L : List Spn) : Nat → ByteArray
  | 0 => x
  | i + 1 => accB x L i ++ ptxt (encF (L.getD i default))
def headB (ho fi : Int) (n : Nat) : ByteArray := ⟨#[66]⟩ ++ putF ho ++ putF fi ++ putF n
def batB (ho fi : Int) (L : List Spn) : Bool := hostB ho && recB fi && recB (fi + L.length) && decide (L.length ≠ 0) && decide (L.length ≤ 8) && L.all chkB
def batR (ho fi : Int) (L : List Spn) : ByteArray := match batB ho fi L with | true => accB (headB ho fi L.length) L L.length | false => .empty

set_option maxHeartbeats 4000000 in
set_option maxRecDepth 100000 in
theorem batch_all {w : World} {ho fi : Int} {v : Value} {L : List Spn} (hho : ho ≤ 9223372036854775807) (hr : ReadsS w v L) (hl : L.length ≤ 20) (hfit : ∀ y ∈ L, y.se.size ≤ 9223372036854775807 ∧ y.ho.size ≤ 9223372036854775807 ∧ y.no.size ≤ 9223372036854775807) :
    Calls Tryz.prog 120 #[.agg #[.int .i64 ho, .int .i64 fi, v]] w fun e w' => e = .returned (.tuple #[.string (batR ho fi L), .int .i64 (errN (batB ho fi L))]) ∧ Kept (fun _ => False) w w' := by
  obtain ⟨ao, cap, rfl, h⟩ := hr
  have HR := Lib.hid h
  have FIT := Lib.hid hfit
  clear h hfit
  have tt : ∀ {a b c : World}, Kept (fun _ => False) a b → Kept (fun _ => False) b c → Kept (fun _ => False) a c := fun h k => h.trans k (fun _ _ h => h) (fun _ _ h => h)
  obtain ⟨n, hn⟩ : ∃ n, L.length = n := ⟨_, rfl⟩
  have BE : batB ho fi L = (hostB ho && recB fi && recB (fi + n) && decide (n ≠ 0) && decide (n ≤ 8) && L.all chkB) := by unfold batB; rw [hn]
  rw [hn] at hl ⊢
  have HN := Lib.hid hn
  clear hn
  have C0 := Lib.hid (host_all ho)
  have C1 := Lib.hid (rec_all fi)
  have C2 := Lib.hid (rec_all (fi + n))
  cases h0 : hostB ho with
  | false =>
    have e : batB ho fi L = false := by rw [BE]; simp [h0]
    unfold batR; rw [e]; clear e BE; rw [h0] at C0
    go_enter Tryz.func120, Tryz.ntmps120
    go_wp2_with (go_at_call 216; refine (C0.out _).mono ?_; rintro e w1 ⟨rfl, rfl⟩)
    go_ret2
    exact ⟨rfl, (Kept.refl _ _).alloc _⟩
  | true =>
    cases h1 : recB fi with
    | false =>
      have e : batB ho fi L = false := by rw [BE]; simp [h1]
      unfold batR; rw [e]; clear e BE; rw [h0] at C0; rw [h1] at C1
      go_enter Tryz.func120, Tryz.ntmps120
      go_wp2_with (first | (go_at_call 216; refine (C0.out _).mono ?_; rintro e w1 ⟨rfl, rfl⟩) | (go_at_call 217; refine (C1.out _).mono ?_; rintro e w1 ⟨rfl, rfl⟩))
      go_ret2
      exact ⟨rfl, (Kept.refl _ _).alloc _⟩
    | true =>
      have hfi : 0 ≤ fi ∧ fi ≤ 2147483647 := by unfold recB at h1; simpa using h1
      obtain ⟨f0, f1⟩ := hfi
      cases h2 : recB (fi + n) with
      | false =>
        have e : batB ho fi L = false := by rw [BE]; simp [h2]
        unfold batR; rw [e]; clear e BE; rw [h0] at C0; rw [h1] at C1; rw [h2] at C2
        go_enter Tryz.func120, Tryz.ntmps120
        go_wp2_with (first | (go_at_call 216; refine (C0.out _).mono ?_; rintro e w1 ⟨rfl, rfl⟩) | (go_at_call 217; with_reducible refine (C1.out _).mono ?_; rintro e w1 ⟨rfl, rfl⟩) | (go_at_call 217; with_reducible refine (C2.out _).mono ?_; rintro e w1 ⟨rfl, rfl⟩))
        go_ret2
        exact ⟨rfl, (Kept.refl _ _).alloc _⟩
      | true =>
        rw [h0] at C0; rw [h1] at C1; rw [h2] at C2
        by_cases g0 : n = 0
        · have e : batB ho fi L = false := by rw [BE]; simp [g0]
          unfold batR; rw [e]; clear e BE
          have g0' : (n : Int) = 0 := by omega
          clear g0
          go_enter Tryz.func120, Tryz.ntmps120
          go_wp2_with (first | (go_at_call 216; refine (C0.out _).mono ?_; rintro e w1 ⟨rfl, rfl⟩) | (go_at_call 217; with_reducible refine (C1.out _).mono ?_; rintro e w1 ⟨rfl, rfl⟩) | (go_at_call 217; with_reducible refine (C2.out _).mono ?_; rintro e w1 ⟨rfl, rfl⟩))
          go_ret2
          exact ⟨rfl, (Kept.refl _ _).alloc _⟩
        · by_cases g8 : (8 : Int) < (n : Int)
          · have e : batB ho fi L = false := by rw [BE]; simp; intros; omega
            unfold batR; rw [e]; clear e BE
            have g0' : ¬ (n : Int) = 0 := by omega
            clear g0
            go_enter Tryz.func120, Tryz.ntmps120
            go_wp2_with (first | (go_at_call 216; refine (C0.out _).mono ?_; rintro e w1 ⟨rfl, rfl⟩) | (go_at_call 217; with_reducible refine (C1.out _).mono ?_; rintro e w1 ⟨rfl, rfl⟩) | (go_at_call 217; with_reducible refine (C2.out _).mono ?_; rintro e w1 ⟨rfl, rfl⟩))
            go_ret2
            exact ⟨rfl, (Kept.refl _ _).alloc _⟩
          · have g0' : ((n : Int) == 0) = false := by simp; omega
            have g8' : decide ((8 : Int) < (n : Int)) = false := by simpa using g8
            have HF := Lib.hid h0
            have h8 : n ≤ 8 := by omega
            have h4 : ho < 4 := by unfold hostB at h0; simp at h0; omega
            have hh0 : 0 ≤ ho := by unfold hostB at h0; simp at h0; omega
            have BE2 : batB ho fi L = L.all chkB := by rw [BE, h0, h1, h2]; simp; intros; omega
            have BR := Lib.hid BE2
            clear BE2 BE g0 h0 h1 h2
            obtain ⟨hd, hhd⟩ : ∃ hd, headB ho fi n = hd := ⟨_, rfl⟩
            have zd : hd.size ≤ 31 := by
              rw [← hhd]
              unfold headB
              simp only [ByteArray.size_append]
              have := putF_size ho
              have := putF_size fi
              have := putF_size n
              have : (ByteArray.mk #[66]).size = 1 := rfl
              omega
            have HD := Lib.hid hhd
            clear hhd
            have RT : batB ho fi L = true → batR ho fi L = accB hd L n := fun h => by unfold batR; rw [h, HN.out, HD.out]
            have RF : batB ho fi L = false → batR ho fi L = .empty := fun h => by unfold batR; rw [h]
            obtain ⟨rr, hrr⟩ : ∃ rr, batR ho fi L = rr := ⟨_, rfl⟩
            obtain ⟨bb, hbb⟩ : ∃ bb, batB ho fi L = bb := ⟨_, rfl⟩
            rw [hrr] at RT RF ⊢
            rw [hbb] at RT RF BR ⊢
            have RT := Lib.hid RT
            have RF := Lib.hid RF
            clear hrr hbb
            go_enter Tryz.func120, Tryz.ntmps120
            go_wp2_with (first | (go_at_call 216; refine (C0.out _).mono ?_; rintro e w1 ⟨rfl, rfl⟩) | (go_at_call 217; with_reducible refine (C1.out _).mono ?_; rintro e w1 ⟨rfl, rfl⟩) | (go_at_call 217; with_reducible refine (C2.out _).mono ?_; rintro e w1 ⟨rfl, rfl⟩) | (go_at_call 218; refine (puts3 (a := ho) (b := fi) (c := n) (by show 1 ≤ 1000; omega) (by omega) (by omega) (by omega) (by simp) (by simp) (by simp)).mono ?_; rintro e w2 ⟨rfl, k2⟩; have c1 := k2.cell (a := ⟨w.heap.size, 2, none⟩) (v := .slice ao n cap) (by simp) (fun f => f); have K2 := Lib.hid (tt ((Kept.refl _ w).alloc _) (tt ((Kept.refl _ _).alloc _) k2)); clear k2))
            go_loopg [53, 4] n (fun gh t s wr => ∃ k : Nat, k + gh = n ∧ t = .int .i64 k ∧ s = .string (accB hd L k) ∧ (accB hd L k).size ≤ 31 + 200 * k ∧ Kept (fun _ => False) w wr ∧ ∀ j, j < k → chkB (L.getD j default) = true)
            case atStart => exact ⟨0, by omega, rfl, by rw [accB, ← HD.out]; rfl, by rw [accB]; omega, K2.out, fun j hj => absurd hj (Nat.not_lt_zero j)⟩
            case round =>
              obtain ⟨k, hk, rfl, rfl, hz, hK, hno⟩ := hrel
              have NO := Lib.hid hno
              have KW := Lib.hid hK
              have hk1 : k ≤ n := by omega
              have JK := Lib.hid hk
              clear hk hno hK
              obtain ⟨ac, hac⟩ : ∃ ac, accB hd L k = ac := ⟨_, rfl⟩
              rw [hac] at hz ⊢
              have AC := Lib.hid hac
              clear hac
              by_cases hlt : k < n
              · rcases HR.out with e0 | ⟨g, o, rfl, hc⟩
                · have := HN.out; rw [e0] at this; simp at this; omega
                obtain ⟨m, hm⟩ : ∃ m, L[k]? = some m := ⟨_, List.getElem?_eq_getElem (by rw [HN.out]; exact hlt)⟩
                have hgd : L.getD k default = m := by rw [List.getD_eq_getElem?_getD, hm]; rfl
                obtain ⟨c0, c1', c2, c3, c4, c5, c6, c7⟩ := ReadsS.at (fun j u hu => KW.out.cell (hc j u hu) (fun f => f)) hm
                have f := FIT.out m (List.mem_of_getElem? hm)
                have EN := Lib.hid (enc_all m f.1 f.2.1 f.2.2)
                have GD := Lib.hid hgd
                have MEM := Lib.hid (List.mem_of_getElem? hm)
                have i1 : (0 : Int) ≤ (k : Int) := by omega
                have i2 : (k : Int) < (n : Int) := by omega
                clear hc hm f hgd
                unfold encR aggS at EN
                cases hB : chkB m with
                | false =>
                  rw [hB] at EN
                  have b0 : bb = false := by
                    rw [BR.out, List.all_eq_false]
                    exact ⟨m, MEM.out, by rw [hB]; simp⟩
                  go_wp2_with (go_at_call 219; refine (EN.out _).mono ?_; rintro e w3 ⟨rfl, k3⟩)
                  go_ret2
                  exact ⟨by rw [RF.out b0, b0]; rfl, tt KW.out (tt ((Kept.refl _ _).alloc _) k3)⟩
                | true =>
                  have ez := encF_size hB
                  rw [hB] at EN
                  obtain ⟨ev, hev⟩ : ∃ ev, encF m = ev := ⟨_, rfl⟩
                  rw [hev] at EN ez
                  have EV := Lib.hid hev
                  clear hev
                  have pz := ptxt_size ev
                  go_wp2_with (first | (go_at_call 219; refine (EN.out _).mono ?_; rintro e w3 ⟨rfl, k3⟩; have K3 := Lib.hid (tt KW.out (tt ((Kept.refl _ _).alloc _) k3)); clear k3) | (go_at_call 160; refine (puttext_all ev _ (by omega)).mono ?_; rintro e w4 ⟨rfl, k4⟩; have K4 := Lib.hid (tt K3.out k4); clear k4))
                  go_roundg (n - k - 1)
                  case measure => have := JK.out; omega
                  case rel =>
                    have ea : accB hd L (k + 1) = ac ++ ptxt ev := by rw [accB, AC.out, GD.out, EV.out]
                    refine ⟨k + 1, by omega, by go_num, by rw [ea], by rw [ea, ByteArray.size_append]; omega, K4.out, fun j hj => ?_⟩
                    by_cases e : j = k
                    · subst e; rw [GD.out]; exact hB
                    · exact NO.out j (by omega)
              · have e3 : ¬ (k : Int) < (n : Int) := by omega
                obtain rfl : k = n := by omega
                have b1 : bb = true := by
                  rw [BR.out, List.all_eq_true]
                  intro m hm
                  obtain ⟨j, hj⟩ := List.getElem?_of_mem hm
                  have hjn := (List.getElem?_eq_some_iff.1 hj).1
                  rw [HN.out] at hjn
                  have := NO.out j hjn
                  rw [List.getD_eq_getElem?_getD, hj] at this
                  exact this
                go_wp2
                go_ret2
                have er : rr = ac := (RT.out b1).trans AC.out
                subst er
                subst b1
                exact ⟨by rw [AC.out]; rfl, KW.out⟩
end Go.Proofs.YthkcicilmhpfjaaGreatDoor

/- What comes by an act: spoorlaw26.mail. -/
namespace Go.Proofs.YthkcicilmhpfjaaGreatDoor
open Go.RowKit Go.Lib

def mailN (m : Ac) : Int := match m.od with | true => wrap64 (m.ho + 1) | false => m.ho
def mailD (m : Ac) (L : List Spn) : ByteArray := match decide (m.ki % 9 < 4) with | true => batR m.ho m.fi L | false => m.da
set_option maxHeartbeats 4000000 in
set_option maxRecDepth 100000 in
theorem mail_all {w : World} {m : Ac} {L : List Spn} (hk0 : 0 ≤ m.ki) (hk1 : m.ki ≤ 255) (hho : m.ho ≤ 9223372036854775807) (hr : ReadsS w m.sp L) (hl : L.length ≤ 20) (hfit : ∀ y ∈ L, y.se.size ≤ 9223372036854775807 ∧ y.ho.size ≤ 9223372036854775807 ∧ y.no.size ≤ 9223372036854775807) :
    Calls Tryz.prog 37 #[.agg m.cells.toArray] w fun e w' => e = .returned (.agg #[.int .i64 (mailN m), .int .i64 (-1), .string (mailD m L)]) ∧ Kept (fun _ => False) w w' := by
  have C : ∀ w', Kept (fun _ => False) w w' → Calls Tryz.prog 120 #[.agg #[.int .i64 m.ho, .int .i64 m.fi, m.sp]] w' fun e w'' => e = .returned (.tuple #[.string (batR m.ho m.fi L), .int .i64 (errN (batB m.ho m.fi L))]) ∧ Kept (fun _ => False) w' w'' := fun w' K => batch_all hho (hr.keptF K) hl hfit
  have CH := Lib.hid C
  clear C hr hfit
  unfold mailN mailD Ac.cells
  obtain ⟨rr, hrr⟩ : ∃ rr, batR m.ho m.fi L = rr := ⟨_, rfl⟩
  obtain ⟨bb, hbb⟩ : ∃ bb, errN (batB m.ho m.fi L) = bb := ⟨_, rfl⟩
  rw [hrr] at CH ⊢
  rw [hbb] at CH
  clear hrr hbb
  have tt : ∀ {a b c : World}, Kept (fun _ => False) a b → Kept (fun _ => False) b c → Kept (fun _ => False) a c := fun h k => h.trans k (fun _ _ h => h) (fun _ _ h => h)
  have KA : ∀ o1 o2 o3, Kept (fun _ => False) w (((w.alloc o1).alloc o2).alloc o3) := fun _ _ _ => (((Kept.refl _ _).alloc _).alloc _).alloc _
  by_cases h4 : m.ki % 9 < 4
  · rw [decide_eq_true h4]
    cases hod : m.od
    · go_enter Tryz.func37, Tryz.ntmps37
      go_wp2_with fail
      refine (CH.out _ (KA _ _ _)).mono ?_
      rintro e w1 ⟨rfl, k1⟩
      have q4 := k1.cell (a := ⟨w.heap.size, 4, none⟩) (v := .bool false) (by go_simp) (fun f => f)
      have r0 := k1.cell (a := ⟨w.heap.size + 1, 0, none⟩) (v := .int .i64 0) (by go_simp) (fun f => f)
      have r1 := k1.cell (a := ⟨w.heap.size + 1, 1, none⟩) (v := .int .i64 0) (by go_simp) (fun f => f)
      have r2 := k1.cell (a := ⟨w.heap.size + 1, 2, none⟩) (v := .string ⟨#[]⟩) (by go_simp) (fun f => f)
      have s0 := k1.cell (a := ⟨w.heap.size + 1 + 1, 0, none⟩) (v := .int .i64 m.ho) (by go_simp) (fun f => f)
      have s1 := k1.cell (a := ⟨w.heap.size + 1 + 1, 1, none⟩) (v := .int .i64 (-1)) (by go_simp) (fun f => f)
      have s2 := k1.cell (a := ⟨w.heap.size + 1 + 1, 2, none⟩) (v := .string m.da) (by go_simp) (fun f => f)
      have f1 : ∀ j, w1.frozen? ⟨w.heap.size + 1, j, none⟩ = false := fun j => k1.frozen (by go_simp) (by first | go_simp | (simp; done) | (simp; omega)) (fun f => f)
      have f2 : ∀ j, w1.frozen? ⟨w.heap.size + 1 + 1, j, none⟩ = false := fun j => k1.frozen (by go_simp) (by first | go_simp | (simp; done) | (simp; omega)) (fun f => f)
      have K1 := Lib.hid (tt (KA _ _ _) k1)
      clear k1
      go_wp2
      refine bodyPost_ret (v := _) (by simp [results, Tryz.results37, go_sem, r0, r1, r2]; try rfl) rfl ?_
      refine ⟨rfl, ?_⟩
      repeat (first | exact K1.out | refine Kept.setAt (fun h => by omega) ?_)
    · go_enter Tryz.func37, Tryz.ntmps37
      go_wp2_with fail
      refine (CH.out _ (KA _ _ _)).mono ?_
      rintro e w1 ⟨rfl, k1⟩
      have q4 := k1.cell (a := ⟨w.heap.size, 4, none⟩) (v := .bool true) (by go_simp) (fun f => f)
      have r0 := k1.cell (a := ⟨w.heap.size + 1, 0, none⟩) (v := .int .i64 0) (by go_simp) (fun f => f)
      have r1 := k1.cell (a := ⟨w.heap.size + 1, 1, none⟩) (v := .int .i64 0) (by go_simp) (fun f => f)
      have r2 := k1.cell (a := ⟨w.heap.size + 1, 2, none⟩) (v := .string ⟨#[]⟩) (by go_simp) (fun f => f)
      have s0 := k1.cell (a := ⟨w.heap.size + 1 + 1, 0, none⟩) (v := .int .i64 m.ho) (by go_simp) (fun f => f)
      have s1 := k1.cell (a := ⟨w.heap.size + 1 + 1, 1, none⟩) (v := .int .i64 (-1)) (by go_simp) (fun f => f)
      have s2 := k1.cell (a := ⟨w.heap.size + 1 + 1, 2, none⟩) (v := .string m.da) (by go_simp) (fun f => f)
      have f1 : ∀ j, w1.frozen? ⟨w.heap.size + 1, j, none⟩ = false := fun j => k1.frozen (by go_simp) (by first | go_simp | (simp; done) | (simp; omega)) (fun f => f)
      have f2 : ∀ j, w1.frozen? ⟨w.heap.size + 1 + 1, j, none⟩ = false := fun j => k1.frozen (by go_simp) (by first | go_simp | (simp; done) | (simp; omega)) (fun f => f)
      have K1 := Lib.hid (tt (KA _ _ _) k1)
      clear k1
      go_wp2
      refine bodyPost_ret (v := _) (by simp [results, Tryz.results37, go_sem, r0, r1, r2]; try rfl) rfl ?_
      refine ⟨rfl, ?_⟩
      repeat (first | exact K1.out | refine Kept.setAt (fun h => by omega) ?_)
  · rw [decide_eq_false h4]
    cases hod : m.od
    · go_enter Tryz.func37, Tryz.ntmps37
      go_wp2
      refine bodyPost_ret (v := _) (by simp [results, Tryz.results37, go_sem]; try rfl) rfl ?_
      exact ⟨rfl, KA _ _ _⟩
    · go_enter Tryz.func37, Tryz.ntmps37
      go_wp2
      refine bodyPost_ret (v := _) (by simp [results, Tryz.results37, go_sem]; try rfl) rfl ?_
      exact ⟨rfl, KA _ _ _⟩
end Go.Proofs.YthkcicilmhpfjaaGreatDoor

/- spoorlaw26.work of a repository that is none, or down. -/
namespace Go.Proofs.YthkcicilmhpfjaaGreatDoor
open Go.RowKit Go.Lib

theorem state0 (w : World) : Calls Tryz.prog 123 #[.pointer none] w fun e w' => e = .returned (.int .i64 1) ∧ w' = w := by
  go_enter Tryz.func123, Tryz.ntmps123
  go_wp2
  go_ret
  exact ⟨rfl, rfl⟩
theorem state1 {w : World} {g : Nat} {o : Nat} (c2 : w.cell? ⟨g, o + 2, none⟩ = some (.pointer none)) : Calls Tryz.prog 123 #[.pointer (some ⟨g, o, none⟩)] w fun e w' => e = .returned (.int .i64 1) ∧ w' = w := by
  go_enter Tryz.func123, Tryz.ntmps123
  go_wp2
  go_ret
  exact ⟨rfl, rfl⟩
theorem state2 {w : World} {g : Nat} {o : Nat} {d : Addr} (c2 : w.cell? ⟨g, o + 2, none⟩ = some (.pointer (some d))) (c3 : w.cell? ⟨g, o + 3, none⟩ = some (.pointer none)) : Calls Tryz.prog 123 #[.pointer (some ⟨g, o, none⟩)] w fun e w' => e = .returned (.int .i64 250) ∧ w' = w := by
  go_enter Tryz.func123, Tryz.ntmps123
  go_wp2
  go_ret
  exact ⟨rfl, rfl⟩
set_option maxRecDepth 100000 in
theorem work_no {w : World} {v : Value} {x k a : Int} (h : Calls Tryz.prog 123 #[v] w fun e w' => e = .returned (.int .i64 x) ∧ w' = w) (hx : (x != 0) = true) :
    Calls Tryz.prog 122 #[v, .int .i64 k, .int .i64 a] w fun e w' => e = .returned (.int .i64 x) ∧ w' = w := by
  have C := Lib.hid h
  clear h
  go_enter Tryz.func122, Tryz.ntmps122
  go_wp2_with (go_at_call 123; refine C.out.mono ?_; rintro e w1 ⟨rfl, rfl⟩)
  go_ret
  exact ⟨rfl, rfl⟩
set_option maxRecDepth 100000 in
theorem work45 {w : World} {v : Value} {x n : Int} (h : Calls Tryz.prog 123 #[v] w fun e w' => e = .returned (.int .i64 x) ∧ w' = w) (hx : (x != 0) = true) (h0 : 0 ≤ n) (h1 : n ≤ 255) :
    Calls Tryz.prog 45 #[v, .int .u8 n] w fun e w' => e = .returned (.int .i64 x) ∧ w' = w := by
  have C := Lib.hid (fun k a => work_no (k := k) (a := a) h hx)
  clear h
  go_enter Tryz.func45, Tryz.ntmps45
  go_wp2_with (go_at_call 122; refine (C.out _ _).mono ?_; rintro e w1 ⟨rfl, rfl⟩)
  go_ret
  exact ⟨rfl, rfl⟩
end Go.Proofs.YthkcicilmhpfjaaGreatDoor

/- The run of 26: the states between its pieces. -/
namespace Go.Proofs.YthkcicilmhpfjaaGreatDoor
open Go.Eng
noncomputable def p26 : List Code := match Tryz.f35.body with | some b => flat b [] | none => []
noncomputable def h26_0 : Heap := (.node none (.node (some (.ro 261 [.sym 1])) N N) N)
noncomputable def m26_0 : Tmps := N
noncomputable def m26_1 : Tmps := (.node (some (.bool false)) (.node (some (.ptr 128 0)) (.node (some (.ptr 129 0)) (.node none (.node none (.node (some (I 0)) N N) N) (.node (some (.bool false)) N N)) (.node none
  (.node (some (.tup [.ptr 128 0, I 0])) N N) (.node (some (.slice 130 0 1 1 false)) N N))) (.node (some (I 0)) (.node none N (.node (some (.tup [.str [66, 0, 0, 1, 10, 3, 1, 0, 0,
   0, 1, 97, 1, 104, 0], I 0])) N N)) (.node none (.node (some (I 0)) N N) (.node (some (.tup [.str [66, 0, 0, 1, 10, 3, 1, 0, 0, 0, 1, 97, 1, 104, 0], I 0])) N N)))) (.node (some
  (I 0)) (.node (some (.str [66, 0, 0, 1, 10, 3, 1, 0, 0, 0, 1, 97, 1, 104, 0])) (.node none N (.node (some (.agg [I 3, I 1, I 0, .str [97], .str [104], I 0, I 0, .str []])) N N))
  (.node none (.node (some (.ptr 128 0)) N N) (.node (some (.agg [I 0, I 0, .slice 130 0 1 1 false])) N N))) (.node none (.node none (.node (some (.tup [.ptr 128 0, I 0])) N N)
  (.node (some (.agg [I 3, I 1, I 0, .str [97], .str [104], I 0, I 0, .str []])) N N)) (.node none (.node (some (I 0)) N N) (.node (some (.str [66, 0, 0, 1, 10, 3, 1, 0, 0, 0, 1,
  97, 1, 104, 0])) N N)))))
noncomputable def h26_1 : Heap := (.node none (.node (some (.ro 261 [.sym 1])) (.node none (.node (some (.cells 189 [I 100000, I 0, .bool false, .map 6, .nilf, .nils])) N N) (.node none (.node none (.node none
  (.node (some (.cells 269 [.ptr 7 0, I 0, .bool false, I 1])) N N) N) N) (.node none N (.node none (.node (some (.cells 152 [.ptr 89 0])) N N) N)))) (.node none (.node none
  (.node none (.node none (.node none (.node (some (.cells 111 [I 3, I 1, I 0, .str [97], .str [104], I 0, I 0, .str []])) N N) N) N) N) (.node none N (.node none (.node (some
  (.cells 253 [.bool true, .nils])) N N) N))) (.node (some (.cells 246 [.ptr 7 0, I 0, .bool false, .slice 12 0 1 1 false, I 1, I 2, I 13])) N (.node none (.node none (.node (some
  (.cells 58 [.ptr 7 0, .ptr 13 0, .ptr 67 0, .slice 91 0 1 1 true, .map 76, I 0])) N N) N) N)))) (.node none (.node none (.node none (.node none (.node none (.node none (.node
  (some (.cells 106 [I 0, I 0, .ptr 7 0, .ptr 77 0])) N N) N) N) N) N) (.node (some (.cells 150 [.str [], .nils])) N (.node none (.node none (.node (some (.map [] 0)) N N) N) N)))
  (.node (some (.map [(.str [109], .agg [.str [2, 0, 5, 1, 2, 1, 0, 0, 0, 21, 0, 5, 3], I 13], 1)] 2)) N N)))
noncomputable def m26_2 : Tmps := (.node (some (.bool false)) (.node (some (.ptr 128 0)) (.node (some (.ptr 129 0)) (.node (some (I 0)) (.node none (.node (some (I 0)) N N) N) (.node (some (.bool false)) N N))
  (.node none (.node (some (.tup [.ptr 128 0, I 0])) (.node (some (.agg [I 0, .int .i64 (.negSucc 0), .str [66, 0, 0, 1, 10, 3, 1, 0, 0, 0, 1, 97, 1, 104, 0]])) N N) N) (.node
  (some (.slice 130 0 1 1 false)) N N))) (.node (some (I 0)) (.node none (.node none (.node (some (.ptr 128 0)) N N) N) (.node (some (.tup [.str [66, 0, 0, 1, 10, 3, 1, 0, 0, 0, 1,
   97, 1, 104, 0], I 0])) N N)) (.node none (.node (some (I 0)) (.node (some (.slice 460 0 1 1 false)) N N) N) (.node (some (.tup [.str [66, 0, 0, 1, 10, 3, 1, 0, 0, 0, 1, 97, 1,
  104, 0], I 0])) N N)))) (.node (some (I 0)) (.node (some (.str [66, 0, 0, 1, 10, 3, 1, 0, 0, 0, 1, 97, 1, 104, 0])) (.node none (.node none (.node (some (.tup [.slice 460 0 1 1
  false, I 0])) N N) N) (.node (some (.agg [I 3, I 1, I 0, .str [97], .str [104], I 0, I 0, .str []])) N N)) (.node none (.node (some (.ptr 128 0)) (.node (some (.tup [.slice 460
  0 1 1 false, I 0])) N N) N) (.node (some (.agg [I 0, I 0, .slice 130 0 1 1 false])) N N))) (.node (some (.slice 460 0 1 1 false)) (.node none (.node (some (.tup [.ptr 128 0, I
  0])) (.node (some (.str [66, 0, 0, 1, 10, 3, 1, 0, 0, 0, 1, 97, 1, 104, 0])) N N) N) (.node (some (.agg [I 3, I 1, I 0, .str [97], .str [104], I 0, I 0, .str []])) N N)) (.node
  none (.node (some (I 0)) (.node (some (I 0)) N N) N) (.node (some (.str [66, 0, 0, 1, 10, 3, 1, 0, 0, 0, 1, 97, 1, 104, 0])) N N)))))
noncomputable def h26_2 : Heap := (.node none (.node (some (.ro 261 [.sym 1])) (.node none (.node (some (.cells 189 [I 100000, I 0, .bool false, .map 6, .nilf, .nils])) N N) (.node none (.node none (.node none
  (.node (some (.cells 269 [.ptr 7 0, I 0, .bool false, I 1])) N N) N) N) (.node none N (.node none (.node (some (.cells 152 [.ptr 89 0])) N N) N)))) (.node none (.node none
  (.node none (.node none (.node none (.node (some (.cells 111 [I 3, I 1, I 0, .str [97], .str [104], I 0, I 0, .str []])) N N) N) N) N) (.node none N (.node none (.node (some
  (.cells 253 [.bool true, .slice 418 0 1 1 false])) N N) N))) (.node (some (.cells 246 [.ptr 7 0, I 0, .bool false, .slice 12 0 1 1 false, I 1, I 2, I 13])) (.node none (.node
  none (.node none N (.node none N (.node (some (.cells 38 [.str [115, 0, 0, 0, 0, 0, 0, 0, 3, 0, 0, 0, 0, 0, 0, 0, 1], I 1, .str [3, 1, 0, 0, 0, 1, 97, 1, 104, 0], .str [120, 97,
  0, 104, 0, 0, 0, 0, 0, 0, 0, 0, 0, 0, 0, 0, 0, 0, 0, 0, 3, 0, 0, 0, 0, 0, 0, 0, 1], I 2, .str []])) N N))) N) N) (.node none (.node none (.node (some (.cells 58 [.ptr 7 0, .ptr
  13 0, .ptr 67 0, .slice 91 0 1 1 true, .map 76, I 2])) N N) N) N)))) (.node none (.node none (.node none (.node none (.node none (.node none (.node (some (.cells 106 [I 0, I 0,
  .ptr 7 0, .ptr 77 0])) N N) N) N) N) N) (.node (some (.cells 150 [.str [], .nils])) N (.node none (.node none (.node (some (.map [] 0)) N (.node none N (.node (some (.cells 96
  [.int .i64 (.negSucc 0), I 0, .str [65, 0, 0, 1]])) N N))) N) N))) (.node (some (.map [(.str [109], .agg [.str [2, 0, 5, 1, 2, 1, 0, 0, 0, 21, 0, 5, 3], I 13], 1), (.str [106,
  49], .agg [.str [2, 0, 62, 17, 115, 0, 0, 0, 0, 0, 0, 0, 3, 0, 0, 0, 0, 0, 0, 0, 1, 1, 10, 3, 1, 0, 0, 0, 1, 97, 1, 104, 0, 29, 120, 97, 0, 104, 0, 0, 0, 0, 0, 0, 0, 0, 0, 0, 0,
  0, 0, 0, 0, 0, 3, 0, 0, 0, 0, 0, 0, 0, 1, 2, 0, 103, 218, 2, 199, 3], I 70], 2)] 3)) (.node none (.node none (.node none N (.node none (.node none N (.node (some (.cells 254
  [.slice 453 0 2 2 true])) N N)) N)) N) N) N)))
noncomputable def m26_3 : Tmps := (.node (some (.bool false)) (.node (some (.ptr 128 0)) (.node (some (.ptr 129 0)) (.node (some (I 0)) (.node none (.node (some (I 0)) (.node (some (.ptr 460 2)) N N) N) (.node
  (some (.slice 460 0 1 1 false)) N N)) (.node (some (.bool false)) (.node (some (I 0)) (.node (some (.tup [.nils, I 30])) N N) N) (.node (some (.ptr 460 0)) N N))) (.node (some
  (I 30)) (.node (some (.tup [.ptr 128 0, I 0])) (.node (some (.agg [I 0, .int .i64 (.negSucc 0), .str [66, 0, 0, 1, 10, 3, 1, 0, 0, 0, 1, 97, 1, 104, 0]])) (.node (some (I 0)) N
  N) N) (.node (some (.bool false)) N N)) (.node (some (.slice 130 0 1 1 false)) (.node (some (I 1)) (.node (some (.ptr 128 0)) N N) N) (.node (some (.bool false)) N N)))) (.node
  (some (I 0)) (.node (some (I 0)) (.node none (.node (some (.ptr 128 0)) (.node (some (.tup [.agg [I 0, I 0, I 1], I 0])) N N) N) (.node (some (.ptr 460 0)) N N)) (.node (some
  (.tup [.str [66, 0, 0, 1, 10, 3, 1, 0, 0, 0, 1, 97, 1, 104, 0], I 0])) (.node (some (.bool false)) (.node (some (I 30)) N N) N) (.node (some (I 0)) N N))) (.node (some (I 0))
  (.node (some (I 0)) (.node (some (.slice 460 0 1 1 false)) (.node (some (.ptr 128 0)) N N) N) (.node (some (.bool false)) N N)) (.node (some (.tup [.str [66, 0, 0, 1, 10, 3, 1,
  0, 0, 0, 1, 97, 1, 104, 0], I 0])) (.node (some (.bool false)) (.node (some (.agg [I 3, .slice 565 0 1 1 true])) N N) N) (.node (some (.slice 460 0 1 1 false)) N N))))) (.node
  (some (I 0)) (.node (some (.str [66, 0, 0, 1, 10, 3, 1, 0, 0, 0, 1, 97, 1, 104, 0])) (.node (some (.ptr 464 0)) (.node none (.node (some (.tup [.slice 460 0 1 1 false, I 0]))
  (.node (some (.str [65, 0, 0, 1])) N N) N) (.node (some (.ptr 460 0)) N N)) (.node (some (.agg [I 3, I 1, I 0, .str [97], .str [104], I 0, I 0, .str []])) (.node (some (.bool
  false)) (.node (some (.nils)) N N) N) (.node (some (.ptr 460 1)) N N))) (.node (some (.ptr 566 0)) (.node (some (.ptr 128 0)) (.node (some (.tup [.slice 460 0 1 1 false, I 0]))
  (.node (some (.tup [.nils, I 30])) N N) N) (.node (some (.bool false)) N N)) (.node (some (.agg [I 0, I 0, .slice 130 0 1 1 false])) (.node (some (.bool false)) (.node (some
  (.tup [.agg [I 3, .slice 565 0 1 1 true], I 0])) N N) N) (.node (some (.tup [.agg [I 0, I 0, I 1], I 0])) N N)))) (.node (some (.slice 460 0 1 1 false)) (.node (some (.nils))
  (.node (some (.tup [.ptr 128 0, I 0])) (.node (some (.str [66, 0, 0, 1, 10, 3, 1, 0, 0, 0, 1, 97, 1, 104, 0])) (.node (some (.agg [I 0, I 0, I 1])) N N) N) (.node (some (.int
  .i64 (.negSucc 0))) N N)) (.node (some (.agg [I 3, I 1, I 0, .str [97], .str [104], I 0, I 0, .str []])) (.node (some (.slice 460 0 1 1 false)) (.node (some (.tup [.agg [I 3,
  .slice 565 0 1 1 true], I 0])) N N) N) (.node (some (.bool false)) N N))) (.node none (.node (some (I 0)) (.node (some (I 0)) (.node (some (.agg [I 0, I 0, .str [120, 121,
  122]])) N N) N) (.node (some (.slice 460 0 1 1 false)) N N)) (.node (some (.str [66, 0, 0, 1, 10, 3, 1, 0, 0, 0, 1, 97, 1, 104, 0])) (.node (some (.bool false)) (.node (some (I
  0)) N N) N) (.node (some (.ptr 460 0)) N N))))))
noncomputable def h26_3 : Heap := (.node none (.node (some (.ro 261 [.sym 1])) (.node none (.node (some (.cells 189 [I 100000, I 0, .bool false, .map 6, .nilf, .nils])) N N) (.node none (.node none (.node none
  (.node (some (.cells 269 [.ptr 7 0, I 0, .bool false, I 1])) N N) N) N) (.node none N (.node none (.node (some (.cells 152 [.ptr 89 0])) N N) N)))) (.node none (.node none
  (.node none (.node none (.node none (.node (some (.cells 111 [I 3, I 1, I 0, .str [97], .str [104], I 0, I 0, .str []])) N N) N) N) N) (.node none N (.node none (.node (some
  (.cells 253 [.bool true, .slice 418 0 1 1 false])) N N) N))) (.node (some (.cells 246 [.ptr 7 0, I 0, .bool false, .slice 12 0 1 1 false, I 1, I 2, I 13])) (.node none (.node
  none (.node none N (.node none N (.node (some (.cells 38 [.str [115, 0, 0, 0, 0, 0, 0, 0, 3, 0, 0, 0, 0, 0, 0, 0, 1], I 1, .str [3, 1, 0, 0, 0, 1, 97, 1, 104, 0], .str [120, 97,
  0, 104, 0, 0, 0, 0, 0, 0, 0, 0, 0, 0, 0, 0, 0, 0, 0, 0, 3, 0, 0, 0, 0, 0, 0, 0, 1], I 2, .str []])) N N))) N) (.node none N (.node none (.node none (.node none (.node (some
  (.cells 111 [I 3, I 1, I 0, .str [97], .str [104], I 0, I 0, .str []])) N N) N) N) N))) (.node none (.node none (.node (some (.cells 58 [.ptr 7 0, .ptr 13 0, .ptr 67 0, .slice
  91 0 1 1 true, .map 76, I 2])) N N) N) N)))) (.node none (.node none (.node none (.node none (.node none (.node none (.node (some (.cells 106 [I 0, I 1, .ptr 7 0, .ptr 77 0])) N
  N) N) N) (.node none (.node none N (.node none N (.node (some (.cells 28 [I 0, I 0, I 1])) N N))) N)) N) (.node (some (.cells 150 [.str [], .nils])) N (.node none (.node none
  (.node (some (.map [] 0)) N N) N) N))) (.node (some (.map [(.str [109], .agg [.str [2, 0, 5, 1, 2, 1, 0, 0, 0, 21, 0, 5, 3], I 13], 1), (.str [106, 49], .agg [.str [2, 0, 62, 17,
   115, 0, 0, 0, 0, 0, 0, 0, 3, 0, 0, 0, 0, 0, 0, 0, 1, 1, 10, 3, 1, 0, 0, 0, 1, 97, 1, 104, 0, 29, 120, 97, 0, 104, 0, 0, 0, 0, 0, 0, 0, 0, 0, 0, 0, 0, 0, 0, 0, 0, 3, 0, 0, 0, 0,
  0, 0, 0, 1, 2, 0, 103, 218, 2, 199, 3], I 70], 2)] 3)) (.node none (.node none (.node none N (.node none (.node none N (.node (some (.cells 254 [.slice 453 0 2 2 true])) N N))
  N)) N) N) (.node none (.node none N (.node none N (.node none (.node none (.node none (.node (some (.cells 71 [I 3, .slice 565 0 1 1 true])) N N) N) N) N))) N))))
noncomputable def m26_4 : Tmps := (.node (some (.bool false)) (.node (some (.ptr 128 0)) (.node (some (.ptr 129 0)) (.node (some (I 0)) (.node none (.node (some (I 0)) (.node (some (.ptr 460 2)) N N) (.node (some
  (.bool false)) N N)) (.node (some (.slice 460 0 1 1 false)) (.node (some (I 0)) N N) (.node (some (.ptr 128 0)) N N))) (.node (some (.bool false)) (.node (some (I 0)) (.node
  (some (.tup [.nils, I 30])) N N) (.node (some (.bool false)) N N)) (.node (some (.ptr 460 0)) (.node (some (I 30)) N N) N))) (.node (some (I 30)) (.node (some (.tup [.ptr 128 0,
  I 0])) (.node (some (.agg [I 0, .int .i64 (.negSucc 0), .str [66, 0, 0, 1, 10, 3, 1, 0, 0, 0, 1, 97, 1, 104, 0]])) (.node (some (I 0)) N N) (.node (some (.bool false)) N N))
  (.node (some (.bool false)) (.node (some (.agg [I 0, I 0, I 1])) N N) N)) (.node (some (.slice 130 0 1 1 false)) (.node (some (I 1)) (.node (some (.ptr 128 0)) N N) (.node (some
  (I 2)) N N)) (.node (some (.bool false)) (.node (some (.ptr 128 0)) N N) N)))) (.node (some (I 0)) (.node (some (I 0)) (.node none (.node (some (.ptr 128 0)) (.node (some (.tup
  [.agg [I 0, I 0, I 1], I 0])) N N) (.node (some (.bool false)) N N)) (.node (some (.ptr 460 0)) (.node (some (.bool false)) N N) (.node (some (.bool false)) N N))) (.node (some
  (.tup [.str [66, 0, 0, 1, 10, 3, 1, 0, 0, 0, 1, 97, 1, 104, 0], I 0])) (.node (some (.bool false)) (.node (some (I 30)) N N) (.node (some (.bool false)) N N)) (.node (some (I
  0)) (.node (some (.bool false)) N N) N))) (.node (some (I 0)) (.node (some (I 0)) (.node (some (.slice 460 0 1 1 false)) (.node (some (.ptr 128 0)) N N) (.node (some (.slice 565
  0 1 1 true)) N N)) (.node (some (.bool false)) (.node (some (.bool false)) N N) N)) (.node (some (.tup [.str [66, 0, 0, 1, 10, 3, 1, 0, 0, 0, 1, 97, 1, 104, 0], I 0])) (.node
  (some (.bool false)) (.node (some (.agg [I 3, .slice 565 0 1 1 true])) N N) (.node (some (.bool false)) N N)) (.node (some (.slice 460 0 1 1 false)) (.node (some (.bool false))
  N N) N))))) (.node (some (I 0)) (.node (some (.str [66, 0, 0, 1, 10, 3, 1, 0, 0, 0, 1, 97, 1, 104, 0])) (.node (some (.ptr 464 0)) (.node none (.node (some (.tup [.slice 460 0 1
  1 false, I 0])) (.node (some (.str [65, 0, 0, 1])) N N) (.node (some (I 0)) N N)) (.node (some (.ptr 460 0)) (.node (some (.bool false)) N N) (.node (some (I 0)) N N))) (.node
  (some (.agg [I 3, I 1, I 0, .str [97], .str [104], I 0, I 0, .str []])) (.node (some (.bool false)) (.node (some (.nils)) N N) (.node (some (.bool false)) N N)) (.node (some
  (.ptr 460 1)) (.node (some (.bool false)) N N) N))) (.node (some (.ptr 566 0)) (.node (some (.ptr 128 0)) (.node (some (.tup [.slice 460 0 1 1 false, I 0])) (.node (some (.tup
  [.nils, I 30])) N N) (.node (some (.ptr 566 1)) N N)) (.node (some (.bool false)) (.node (some (.bool false)) N N) N)) (.node (some (.agg [I 0, I 0, .slice 130 0 1 1 false]))
  (.node (some (.bool false)) (.node (some (.tup [.agg [I 3, .slice 565 0 1 1 true], I 0])) N N) (.node (some (.bool false)) N N)) (.node (some (.tup [.agg [I 0, I 0, I 1], I 0]))
  (.node (some (I 1)) N N) N)))) (.node (some (.slice 460 0 1 1 false)) (.node (some (.nils)) (.node (some (.tup [.ptr 128 0, I 0])) (.node (some (.str [66, 0, 0, 1, 10, 3, 1, 0,
  0, 0, 1, 97, 1, 104, 0])) (.node (some (.agg [I 0, I 0, I 1])) N N) (.node (some (.bool false)) N N)) (.node (some (.int .i64 (.negSucc 0))) (.node (some (.agg [I 0, I 0, I 1]))
  N N) (.node (some (.bool false)) N N))) (.node (some (.agg [I 3, I 1, I 0, .str [97], .str [104], I 0, I 0, .str []])) (.node (some (.slice 460 0 1 1 false)) (.node (some (.tup
  [.agg [I 3, .slice 565 0 1 1 true], I 0])) N N) (.node (some (.ptr 128 0)) N N)) (.node (some (.bool false)) (.node (some (.bool false)) N N) N))) (.node none (.node (some (I
  0)) (.node (some (I 0)) (.node (some (.agg [I 0, I 0, .str [120, 121, 122]])) N N) (.node (some (I 1)) N N)) (.node (some (.slice 460 0 1 1 false)) (.node (some (.bool false)) N
  N) N)) (.node (some (.str [66, 0, 0, 1, 10, 3, 1, 0, 0, 0, 1, 97, 1, 104, 0])) (.node (some (.bool false)) (.node (some (I 0)) N N) (.node (some (.bool false)) N N)) (.node
  (some (.ptr 460 0)) (.node (some (.bool false)) N N) N))))))
noncomputable def h26_4 : Heap := (.node none (.node (some (.ro 261 [.sym 1])) (.node none (.node (some (.cells 189 [I 100000, I 0, .bool false, .map 6, .nilf, .nils])) (.node none N (.node none N (.node none
  (.node none N (.node none (.node (some (.cells 349 [.slice 720 0 1 1 true])) N N) N)) N))) N) (.node none (.node none (.node none (.node (some (.cells 269 [.ptr 7 0, I 0, .bool
  false, I 1])) N N) N) N) (.node none N (.node none (.node (some (.cells 152 [.ptr 813 0])) N N) N)))) (.node none (.node none (.node none (.node none (.node none (.node (some
  (.cells 111 [I 3, I 1, I 0, .str [97], .str [104], I 0, I 0, .str []])) N N) N) N) N) N) (.node (some (.cells 246 [.ptr 7 0, I 0, .bool false, .slice 754 0 1 1 false, I 1, I 3,
  I 27])) (.node none N (.node none N (.node none N (.node none N (.node none (.node (some (.cells 3 [I 2])) N N) N))))) (.node none (.node none (.node (some (.cells 58 [.ptr 7 0,
  .ptr 13 0, .ptr 67 0, .slice 91 0 1 1 true, .map 76, I 2])) N N) (.node none (.node none (.node none N (.node (some (.cells 253 [.bool true, .nils])) N N)) N) N)) N)))) (.node
  none (.node none (.node none (.node none (.node none (.node none (.node (some (.cells 106 [I 0, I 1, .ptr 7 0, .ptr 77 0])) N N) N) N) (.node none (.node none N (.node none N
  (.node none (.node (some (.cells 352 [.str [115, 0, 0, 0, 0, 0, 0, 0, 3, 0, 0, 0, 0, 0, 0, 0, 1], .slice 718 0 2 2 true])) N N) N))) N)) N) (.node none N (.node none (.node none
  (.node (some (.map [(I 2, .ptr 687 0, 0)] 1)) N N) N) N))) (.node (some (.map [(.str [109], .agg [.str [2, 0, 5, 1, 2, 1, 0, 0, 0, 21, 0, 5, 3, 2, 0, 6, 1, 1, 0, 2, 0, 0, 0, 23,
  0, 5, 3], I 27], 1), (.str [106, 49], .agg [.str [2, 0, 62, 17, 115, 0, 0, 0, 0, 0, 0, 0, 3, 0, 0, 0, 0, 0, 0, 0, 1, 1, 10, 3, 1, 0, 0, 0, 1, 97, 1, 104, 0, 29, 120, 97, 0, 104,
  0, 0, 0, 0, 0, 0, 0, 0, 0, 0, 0, 0, 0, 0, 0, 0, 3, 0, 0, 0, 0, 0, 0, 0, 1, 2, 0, 103, 218, 2, 199, 3], I 70], 2), (.str [116, 50], .agg [.str [2, 0, 17, 115, 0, 0, 0, 0, 0, 0, 0,
   3, 0, 0, 0, 0, 0, 0, 0, 1, 1, 10, 3, 1, 0, 0, 0, 1, 97, 1, 104, 0, 0, 29, 120, 97, 0, 104, 0, 0, 0, 0, 0, 0, 0, 0, 0, 0, 0, 0, 0, 0, 0, 0, 3, 0, 0, 0, 0, 0, 0, 0, 1, 2, 0, 105,
  193, 2, 201, 1, 17, 115, 0, 0, 0, 0, 0, 0, 0, 3, 0, 0, 0, 0, 0, 0, 0, 1, 65, 9, 226, 0, 203, 0, 0, 0, 0, 0, 0, 0, 69, 0, 0, 0, 0, 0, 0, 0, 2, 115, 112, 111, 111, 114], I 114],
  4)] 5)) (.node none (.node none N (.node none N (.node none N (.node none N (.node none (.node (some (.cells 150 [.str [], .slice 757 0 1 1 true])) N N) N))))) N) (.node none N
  (.node none (.node none (.node none N (.node none N (.node none (.node (some (.cells 38 [.str [115, 0, 0, 0, 0, 0, 0, 0, 3, 0, 0, 0, 0, 0, 0, 0, 1], I 1, .str [3, 1, 0, 0, 0, 1,
  97, 1, 104, 0], .str [120, 97, 0, 104, 0, 0, 0, 0, 0, 0, 0, 0, 0, 0, 0, 0, 0, 0, 0, 0, 3, 0, 0, 0, 0, 0, 0, 0, 1], I 2, .str []])) N N) N))) N) N)))))
noncomputable def m26_5 : Tmps := (.node (some (.bool false)) (.node (some (.ptr 128 0)) (.node (some (.ptr 129 0)) (.node (some (I 0)) (.node (some (I 0)) (.node (some (I 0)) (.node (some (.ptr 460 2)) N N)
  (.node (some (.bool false)) N N)) (.node (some (.slice 460 0 1 1 false)) (.node (some (I 0)) N N) (.node (some (.ptr 128 0)) N N))) (.node (some (.bool false)) (.node (some (I
  0)) (.node (some (.tup [.nils, I 30])) N N) (.node (some (.bool false)) N N)) (.node (some (.ptr 460 0)) (.node (some (I 30)) N N) N))) (.node (some (I 30)) (.node (some (.tup
  [.ptr 128 0, I 0])) (.node (some (.agg [I 0, .int .i64 (.negSucc 0), .str [66, 0, 0, 1, 10, 3, 1, 0, 0, 0, 1, 97, 1, 104, 0]])) (.node (some (I 0)) N N) (.node (some (.bool
  false)) N N)) (.node (some (.bool false)) (.node (some (.agg [I 0, I 0, I 1])) N N) (.node (some (.ptr 128 0)) N N))) (.node (some (.slice 130 0 1 1 false)) (.node (some (I 1))
  (.node (some (.ptr 128 0)) N N) (.node (some (I 2)) N N)) (.node (some (.bool false)) (.node (some (.ptr 128 0)) N N) N)))) (.node (some (I 0)) (.node (some (I 0)) (.node none
  (.node (some (.ptr 128 0)) (.node (some (.tup [.agg [I 0, I 0, I 1], I 0])) N N) (.node (some (.bool false)) N N)) (.node (some (.ptr 460 0)) (.node (some (.bool false)) N N)
  (.node (some (.bool false)) N N))) (.node (some (.tup [.str [66, 0, 0, 1, 10, 3, 1, 0, 0, 0, 1, 97, 1, 104, 0], I 0])) (.node (some (.bool false)) (.node (some (I 30)) N N)
  (.node (some (.bool false)) N N)) (.node (some (I 0)) (.node (some (.bool false)) N N) N))) (.node (some (I 0)) (.node (some (I 0)) (.node (some (.slice 460 0 1 1 false)) (.node
  (some (.ptr 128 0)) N N) (.node (some (.slice 565 0 1 1 true)) N N)) (.node (some (.bool false)) (.node (some (.bool false)) N N) (.node (some (.ptr 128 0)) N N))) (.node (some
  (.tup [.str [66, 0, 0, 1, 10, 3, 1, 0, 0, 0, 1, 97, 1, 104, 0], I 0])) (.node (some (.bool false)) (.node (some (.agg [I 3, .slice 565 0 1 1 true])) N N) (.node (some (.bool
  false)) N N)) (.node (some (.slice 460 0 1 1 false)) (.node (some (.bool false)) N N) N))))) (.node (some (I 0)) (.node (some (.str [66, 0, 0, 1, 10, 3, 1, 0, 0, 0, 1, 97, 1,
  104, 0])) (.node (some (.ptr 464 0)) (.node none (.node (some (.tup [.slice 460 0 1 1 false, I 0])) (.node (some (.str [65, 0, 0, 1])) N N) (.node (some (I 0)) N N)) (.node
  (some (.ptr 460 0)) (.node (some (.bool false)) N N) (.node (some (I 0)) N N))) (.node (some (.agg [I 3, I 1, I 0, .str [97], .str [104], I 0, I 0, .str []])) (.node (some
  (.bool false)) (.node (some (.nils)) N N) (.node (some (.bool false)) N N)) (.node (some (.ptr 460 1)) (.node (some (.bool false)) N N) N))) (.node (some (.ptr 566 0)) (.node
  (some (.ptr 128 0)) (.node (some (.tup [.slice 460 0 1 1 false, I 0])) (.node (some (.tup [.nils, I 30])) N N) (.node (some (.ptr 566 1)) N N)) (.node (some (.bool false))
  (.node (some (.bool false)) N N) (.node (some (I 0)) N N))) (.node (some (.agg [I 0, I 0, .slice 130 0 1 1 false])) (.node (some (.bool false)) (.node (some (.tup [.agg [I 3,
  .slice 565 0 1 1 true], I 0])) N N) (.node (some (.bool false)) N N)) (.node (some (.tup [.agg [I 0, I 0, I 1], I 0])) (.node (some (I 1)) N N) N)))) (.node (some (.slice 460 0
  1 1 false)) (.node (some (.nils)) (.node (some (.tup [.ptr 128 0, I 0])) (.node (some (.str [66, 0, 0, 1, 10, 3, 1, 0, 0, 0, 1, 97, 1, 104, 0])) (.node (some (.agg [I 0, I 0, I
  1])) N N) (.node (some (.bool false)) N N)) (.node (some (.int .i64 (.negSucc 0))) (.node (some (.agg [I 0, I 0, I 1])) N N) (.node (some (.bool false)) N N))) (.node (some
  (.agg [I 3, I 1, I 0, .str [97], .str [104], I 0, I 0, .str []])) (.node (some (.slice 460 0 1 1 false)) (.node (some (.tup [.agg [I 3, .slice 565 0 1 1 true], I 0])) N N)
  (.node (some (.ptr 128 0)) N N)) (.node (some (.bool false)) (.node (some (.bool false)) N N) N))) (.node (some (I 0)) (.node (some (I 0)) (.node (some (I 0)) (.node (some (.agg
  [I 0, I 0, .str [120, 121, 122]])) N N) (.node (some (I 1)) N N)) (.node (some (.slice 460 0 1 1 false)) (.node (some (.bool false)) N N) (.node (some (I 0)) N N))) (.node (some
  (.str [66, 0, 0, 1, 10, 3, 1, 0, 0, 0, 1, 97, 1, 104, 0])) (.node (some (.bool false)) (.node (some (I 0)) N N) (.node (some (.bool false)) N N)) (.node (some (.ptr 460 0))
  (.node (some (.bool false)) N N) N))))))
noncomputable def h26_5 : Heap := (.node none (.node (some (.ro 261 [.sym 1])) (.node none (.node (some (.cells 189 [I 100000, I 1, .bool false, .map 6, .nilf, .nils])) N (.node none N (.node none (.node none
  (.node none (.node none (.node none (.node (some (.cells 349 [.slice 1080 0 1 1 true])) N N) N) N) (.node none N (.node (some (.cells 269 [.ptr 7 0, I 1, .bool false, I 1])) N
  N))) N) (.node none (.node none (.node none N (.node (some (.cells 246 [.ptr 7 0, I 1, .bool false, .slice 901 0 1 1 false, I 1, I 3, I 27])) N N)) N) N)))) (.node none N (.node
  none (.node none (.node none N (.node none N (.node none N (.node (some (.cells 58 [.ptr 7 0, .ptr 823 0, .ptr 919 0, .slice 987 0 1 1 true, .map 970, I 2])) N N)))) N) (.node
  none (.node none N (.node none N (.node none N (.node (some (.cells 152 [.ptr 985 0])) N N)))) N)))) (.node none (.node none (.node none (.node none (.node none (.node (some
  (.cells 111 [I 3, I 1, I 0, .str [97], .str [104], I 0, I 0, .str []])) N N) N) N) N) (.node none N (.node none (.node none N (.node none N (.node none N (.node (some (.cells
  253 [.bool true, .slice 1112 0 1 1 false])) N N)))) N))) (.node none (.node none (.node none (.node none (.node none N (.node none N (.node (some (.cells 150 [.str [], .slice
  904 0 1 1 true])) N N))) N) N) N) (.node none N (.node none N (.node none N (.node none (.node none (.node none (.node (some (.cells 38 [.str [115, 0, 0, 0, 0, 0, 0, 0, 3, 0, 0,
  0, 0, 0, 0, 0, 1], I 1, .str [3, 1, 0, 0, 0, 1, 97, 1, 104, 0], .str [120, 97, 0, 104, 0, 0, 0, 0, 0, 0, 0, 0, 0, 0, 0, 0, 0, 0, 0, 0, 3, 0, 0, 0, 0, 0, 0, 0, 1], I 2, .str
  []])) N N) N) N) N))))))) (.node none (.node none (.node none (.node none (.node none (.node none (.node (some (.cells 106 [I 0, I 1, .ptr 7 0, .ptr 971 0])) N N) N) N) N)
  (.node none (.node none (.node none (.node none N (.node none N (.node (some (.cells 3 [I 2])) N N))) N) N) (.node none (.node none N (.node none (.node none (.node none (.node
  (some (.cells 254 [.slice 1149 0 2 2 true])) N N) N) N) N)) (.node none (.node none (.node none (.node none (.node (some (.cells 352 [.str [115, 0, 0, 0, 0, 0, 0, 0, 3, 0, 0, 0,
  0, 0, 0, 0, 1], .slice 1078 0 2 2 true])) N N) N) N) N) N)))) N) (.node (some (.map [(.str [109], .agg [.str [2, 0, 5, 1, 2, 1, 0, 0, 0, 21, 0, 5, 3, 2, 0, 6, 1, 1, 0, 2, 0, 0,
  0, 23, 0, 5, 3], I 27], 1), (.str [106, 49], .agg [.str [2, 0, 62, 17, 115, 0, 0, 0, 0, 0, 0, 0, 3, 0, 0, 0, 0, 0, 0, 0, 1, 1, 10, 3, 1, 0, 0, 0, 1, 97, 1, 104, 0, 29, 120, 97,
  0, 104, 0, 0, 0, 0, 0, 0, 0, 0, 0, 0, 0, 0, 0, 0, 0, 0, 3, 0, 0, 0, 0, 0, 0, 0, 1, 2, 0, 103, 218, 2, 199, 3], I 70], 2), (.str [116, 50], .agg [.str [2, 0, 17, 115, 0, 0, 0, 0,
  0, 0, 0, 3, 0, 0, 0, 0, 0, 0, 0, 1, 1, 10, 3, 1, 0, 0, 0, 1, 97, 1, 104, 0, 0, 29, 120, 97, 0, 104, 0, 0, 0, 0, 0, 0, 0, 0, 0, 0, 0, 0, 0, 0, 0, 0, 3, 0, 0, 0, 0, 0, 0, 0, 1, 2,
  0, 105, 193, 2, 201, 1, 17, 115, 0, 0, 0, 0, 0, 0, 0, 3, 0, 0, 0, 0, 0, 0, 0, 1, 65, 9, 226, 0, 203, 0, 0, 0, 0, 0, 0, 0, 69, 0, 0, 0, 0, 0, 0, 0, 2, 115, 112, 111, 111, 114], I
  114], 4)] 5)) (.node none N (.node none (.node none (.node none N (.node none N (.node none N (.node (some (.map [(I 2, .ptr 1047 0, 0)] 1)) N N)))) N) N)) (.node none (.node
  none N (.node none N (.node none (.node none (.node none (.node none (.node (some (.cells 38 [.str [115, 0, 0, 0, 0, 0, 0, 0, 3, 0, 0, 0, 0, 0, 0, 0, 1], I 1, .str [3, 1, 0, 0,
  0, 1, 97, 1, 104, 0], .str [120, 97, 0, 104, 0, 0, 0, 0, 0, 0, 0, 0, 0, 0, 0, 0, 0, 0, 0, 0, 3, 0, 0, 0, 0, 0, 0, 0, 1], I 2, .str []])) N N) N) N) N) N))) N))))
noncomputable def m26_6 : Tmps := (.node (some (.bool true)) (.node (some (.ptr 128 0)) (.node (some (.ptr 129 0)) (.node (some (I 0)) (.node (some (I 0)) (.node (some (I 0)) (.node (some (.ptr 460 2)) (.node
  (some (I 0)) N N) N) (.node (some (.bool false)) N N)) (.node (some (.slice 460 0 1 1 false)) (.node (some (I 0)) (.node (some (.ptr 1278 0)) N N) N) (.node (some (.ptr 128 0))
  N N))) (.node (some (.bool false)) (.node (some (I 0)) (.node (some (.tup [.nils, I 30])) (.node (some (.ptr 1279 1)) N N) N) (.node (some (.bool false)) N N)) (.node (some
  (.ptr 460 0)) (.node (some (I 30)) N N) (.node (some (.tup [.agg [I 3, .slice 1278 0 1 1 true], I 0])) N N)))) (.node (some (I 30)) (.node (some (.tup [.ptr 128 0, I 0])) (.node
  (some (.agg [I 0, .int .i64 (.negSucc 0), .str [66, 0, 0, 1, 10, 3, 1, 0, 0, 0, 1, 97, 1, 104, 0]])) (.node (some (I 0)) (.node (some (I 0)) N N) N) (.node (some (.bool false))
  N N)) (.node (some (.bool false)) (.node (some (.agg [I 0, I 0, I 1])) (.node (some (.bool true)) N N) N) (.node (some (.ptr 128 0)) N N))) (.node (some (.slice 130 0 1 1
  false)) (.node (some (I 1)) (.node (some (.ptr 128 0)) (.node (some (.bool true)) N N) N) (.node (some (I 2)) N N)) (.node (some (.bool false)) (.node (some (.ptr 128 0)) N N)
  (.node (some (I 0)) N N))))) (.node (some (I 0)) (.node (some (I 0)) (.node (some (I 0)) (.node (some (.ptr 128 0)) (.node (some (.tup [.agg [I 0, I 0, I 1], I 0])) (.node (some
  (.bool true)) N N) N) (.node (some (.bool false)) N N)) (.node (some (.ptr 460 0)) (.node (some (.bool false)) (.node (some (.agg [I 3, I 1, I 0, .str [97], .str [104], I 0, I 0,
   .str []])) N N) N) (.node (some (.bool false)) N N))) (.node (some (.tup [.str [66, 0, 0, 1, 10, 3, 1, 0, 0, 0, 1, 97, 1, 104, 0], I 0])) (.node (some (.bool false)) (.node
  (some (I 30)) (.node (some (I 1)) N N) N) (.node (some (.bool false)) N N)) (.node (some (I 0)) (.node (some (.bool false)) N N) (.node (some (.tup [.agg [I 3, .slice 1278 0 1 1
  true], I 0])) N N)))) (.node (some (I 0)) (.node (some (I 0)) (.node (some (.slice 460 0 1 1 false)) (.node (some (.ptr 128 0)) (.node (some (.bool true)) N N) N) (.node (some
  (.slice 565 0 1 1 true)) N N)) (.node (some (.bool false)) (.node (some (.bool false)) N N) (.node (some (.ptr 128 0)) N N))) (.node (some (.tup [.str [66, 0, 0, 1, 10, 3, 1, 0,
  0, 0, 1, 97, 1, 104, 0], I 0])) (.node (some (.bool false)) (.node (some (.agg [I 3, .slice 565 0 1 1 true])) (.node (some (.ptr 1279 1)) N N) N) (.node (some (.bool false)) N
  N)) (.node (some (.slice 460 0 1 1 false)) (.node (some (.bool false)) N N) (.node (some (.bool true)) N N)))))) (.node (some (I 0)) (.node (some (.str [66, 0, 0, 1, 10, 3, 1, 0,
   0, 0, 1, 97, 1, 104, 0])) (.node (some (.ptr 464 0)) (.node (some (.ptr 1279 0)) (.node (some (.tup [.slice 460 0 1 1 false, I 0])) (.node (some (.str [65, 0, 0, 1])) (.node
  (some (.bool true)) N N) N) (.node (some (I 0)) N N)) (.node (some (.ptr 460 0)) (.node (some (.bool false)) (.node (some (.agg [I 3, I 1, I 0, .str [97], .str [104], I 0, I 0,
  .str []])) N N) N) (.node (some (I 0)) N N))) (.node (some (.agg [I 3, I 1, I 0, .str [97], .str [104], I 0, I 0, .str []])) (.node (some (.bool false)) (.node (some (.nils))
  (.node (some (.slice 1278 0 1 1 true)) N N) N) (.node (some (.bool false)) N N)) (.node (some (.ptr 460 1)) (.node (some (.bool false)) N N) (.node (some (.ptr 128 0)) N N))))
  (.node (some (.ptr 566 0)) (.node (some (.ptr 128 0)) (.node (some (.tup [.slice 460 0 1 1 false, I 0])) (.node (some (.tup [.nils, I 30])) (.node (some (.bool true)) N N) N)
  (.node (some (.ptr 566 1)) N N)) (.node (some (.bool false)) (.node (some (.bool false)) N N) (.node (some (I 0)) N N))) (.node (some (.agg [I 0, I 0, .slice 130 0 1 1 false]))
  (.node (some (.bool false)) (.node (some (.tup [.agg [I 3, .slice 565 0 1 1 true], I 0])) (.node (some (.bool true)) N N) N) (.node (some (.bool false)) N N)) (.node (some (.tup
  [.agg [I 0, I 0, I 1], I 0])) (.node (some (I 1)) N N) (.node (some (I 0)) N N))))) (.node (some (.slice 460 0 1 1 false)) (.node (some (.nils)) (.node (some (.tup [.ptr 128 0,
  I 0])) (.node (some (.str [66, 0, 0, 1, 10, 3, 1, 0, 0, 0, 1, 97, 1, 104, 0])) (.node (some (.agg [I 0, I 0, I 1])) (.node (some (.bool true)) N N) N) (.node (some (.bool
  false)) N N)) (.node (some (.int .i64 (.negSucc 0))) (.node (some (.agg [I 0, I 0, I 1])) (.node (some (.bool true)) N N) N) (.node (some (.bool false)) N N))) (.node (some
  (.agg [I 3, I 1, I 0, .str [97], .str [104], I 0, I 0, .str []])) (.node (some (.slice 460 0 1 1 false)) (.node (some (.tup [.agg [I 3, .slice 565 0 1 1 true], I 0])) (.node
  (some (.bool true)) N N) N) (.node (some (.ptr 128 0)) N N)) (.node (some (.bool false)) (.node (some (.bool false)) N N) (.node (some (.agg [I 3, .slice 1278 0 1 1 true])) N
  N)))) (.node (some (I 0)) (.node (some (I 0)) (.node (some (I 0)) (.node (some (.agg [I 0, I 0, .str [120, 121, 122]])) (.node (some (.bool true)) N N) N) (.node (some (I 1)) N
  N)) (.node (some (.slice 460 0 1 1 false)) (.node (some (.bool false)) N N) (.node (some (I 0)) N N))) (.node (some (.str [66, 0, 0, 1, 10, 3, 1, 0, 0, 0, 1, 97, 1, 104, 0]))
  (.node (some (.bool false)) (.node (some (I 0)) (.node (some (.slice 1278 0 1 1 true)) N N) N) (.node (some (.bool false)) N N)) (.node (some (.ptr 460 0)) (.node (some (.bool
  false)) N N) (.node (some (.bool true)) N N)))))))
noncomputable def h26_6 : Heap := (.node none (.node (some (.ro 261 [.sym 1])) N N) N)
end Go.Proofs.YthkcicilmhpfjaaGreatDoor

/- The run of 26: piece 1. -/
namespace Go.Proofs.YthkcicilmhpfjaaGreatDoor
open Go.Eng

set_option maxRecDepth 1000000 in
theorem r26_1 : cdEq (codeK Tryz.prog smAll 100000 148 [1, 6, 7, 12, 13, 67, 76, 77, 89, 91, 128, 129] ((p26.drop 0).take 6) m26_0 [] h26_0 6) (.mk .norm m26_1 [] h26_1 170) = true := by decide +kernel
end Go.Proofs.YthkcicilmhpfjaaGreatDoor

/- The run of 26: piece 2. -/
namespace Go.Proofs.YthkcicilmhpfjaaGreatDoor
open Go.Eng

set_option maxRecDepth 1000000 in
theorem r26_2 : cdEq (codeK Tryz.prog smAll 100000 148 [1, 6, 7, 12, 13, 67, 76, 77, 89, 91, 128, 129, 418, 453, 460] ((p26.drop 6).take 1) m26_1 [] h26_1 170) (.mk .norm m26_2 [] h26_2 461) = true := by decide +kernel
end Go.Proofs.YthkcicilmhpfjaaGreatDoor

/- The run of 26: piece 3. -/
namespace Go.Proofs.YthkcicilmhpfjaaGreatDoor
open Go.Eng

set_option maxRecDepth 1000000 in
theorem r26_3 : cdEq (codeK Tryz.prog smAll 100000 148 [1, 6, 7, 12, 13, 67, 76, 77, 89, 91, 128, 129, 418, 453, 464, 565, 566] ((p26.drop 7).take 5) m26_2 [] h26_2 461) (.mk .norm m26_3 [] h26_3 567) = true := by decide +kernel
end Go.Proofs.YthkcicilmhpfjaaGreatDoor

/- The run of 26: piece 4. -/
namespace Go.Proofs.YthkcicilmhpfjaaGreatDoor
open Go.Eng

set_option maxRecDepth 1000000 in
theorem r26_4 : cdEq (codeK Tryz.prog smAll 100000 148 [1, 6, 7, 13, 67, 76, 77, 91, 128, 129, 687, 718, 720, 754, 757, 813] ((p26.drop 12).take 1) m26_3 [] h26_3 567) (.mk .norm m26_4 [] h26_4 814) = true := by decide +kernel
end Go.Proofs.YthkcicilmhpfjaaGreatDoor

/- The run of 26: piece 5. -/
namespace Go.Proofs.YthkcicilmhpfjaaGreatDoor
open Go.Eng

set_option maxRecDepth 1000000 in
theorem r26_5 : cdEq (codeK Tryz.prog smAll 100000 148 [1, 6, 7, 128, 129, 823, 901, 904, 919, 970, 971, 985, 987, 1047, 1078, 1080, 1112, 1149] ((p26.drop 13).take 2) m26_4 [] h26_4 814) (.mk .norm m26_5 [] h26_5 1150) = true := by decide +kernel
end Go.Proofs.YthkcicilmhpfjaaGreatDoor

/- The run of 26: piece 6. -/
namespace Go.Proofs.YthkcicilmhpfjaaGreatDoor
open Go.Eng

set_option maxRecDepth 1000000 in
theorem r26_6 : cdEq (codeK Tryz.prog smAll 100000 148 [1] (p26.drop 15) m26_5 [] h26_5 1150) (.mk .ret m26_6 [] h26_6 1280) = true := by decide +kernel
end Go.Proofs.YthkcicilmhpfjaaGreatDoor

/- The run of 26, whole: it returns true, and nothing that was there has turned. -/
namespace Go.Proofs.YthkcicilmhpfjaaGreatDoor
open Go.Eng Go.RowKit

set_option maxRecDepth 1000000 in
theorem lives26_any {η : Env} {w : World} (h0 : RoHeap Tryz.prog η h26_0 w) : Calls Tryz.prog 35 #[] w fun e w' => e = .returned (.bool true) ∧ Eng.Kept (fun _ => False) w w' := by
  have hk : ∀ n o, h26_0.get n = some o → ∃ t cs, h26_6.get n = some (.ro t cs) := fun n o hn => by
    have hb := ro_names (h0 n o hn).1 hn (by decide +kernel : roSame Tryz.prog.globals.size h26_0 h26_6 = true)
    exact hb
  refine calls_of_wp Tryz.func35 (c := _) rfl (wp_flat (w := w) ?_)
  have hp : flat _ [] = p26 := rfl
  rw [hp]
  have s0 := start_ok h0
  rw [show Tryz.prog.globals.size = 6 by kernel_rfl] at s0
  rw [show p26 = p26.drop 0 by simp]
  refine piece (l := p26) mixed noGo (smAll_ok (η := η)) (by decide) r26_1 s0 noArgs rfl fun s1 a1 x1 d1 t1 w1 => ?_
  refine piece (l := p26) mixed noGo (smAll_ok (η := η)) (by decide) r26_2 w1.rel t1 d1 fun s2 a2 x2 d2 t2 w2 => ?_
  refine piece (l := p26) mixed noGo (smAll_ok (η := η)) (by decide) r26_3 w2.rel t2 d2 fun s3 a3 x3 d3 t3 w3 => ?_
  refine piece (l := p26) mixed noGo (smAll_ok (η := η)) (by decide) r26_4 w3.rel t3 d3 fun s4 a4 x4 d4 t4 w4 => ?_
  refine piece (l := p26) mixed noGo (smAll_ok (η := η)) (by decide) r26_5 w4.rel t4 d4 fun s5 a5 x5 d5 t5 w5 => ?_
  refine last_piece (l := p26) mixed noGo (smAll_ok (η := η)) (by decide) r26_6 w5.rel t5 d5 (v := .bool true) (by rfl) fun s u x hu W => ?_
  rw [conc_bool] at hu
  subst hu
  exact ⟨rfl, end_ok h0 (by rw [show Tryz.prog.globals.size = 6 by kernel_rfl]; exact (((((w1.trans w2).trans w3).trans w4).trans w5).trans W)) hk⟩
end Go.Proofs.YthkcicilmhpfjaaGreatDoor

/- From a walk by hand into the evaluator: the rest of a function. -/
namespace Go.Eng
variable {σ σ' : Sig} {η : Env} {P : Program}

/-- The temporaries, from a list. -/
theorem tr_init {avs : List AV} {vs : List Value} (h : concs σ η avs = some vs) (hl : vs.length ≤ bigN) : TR σ η vs.length (initF 0 avs .nil) vs.toArray := by
  have hlen := concs_length h
  refine ⟨by simp, fun (t : Nat) => ?_⟩
  rw [initF_ev avs 0 .nil t (by rw [Nat.zero_add, ← hlen]; exact Nat.le_succ_of_le hl)]
  by_cases ht : t < avs.length
  · rw [if_pos ⟨Nat.zero_le _, by rw [Nat.zero_add]; exact ht⟩, Nat.sub_zero]
    have h2 : t < vs.length := by rw [hlen]; exact ht
    obtain ⟨x, hx, hc⟩ := (concs_get h t).1 _ (List.getElem?_eq_getElem h2)
    have e1 : avs.getD t uv = x := by rw [List.getD_eq_getElem?_getD, hx]; rfl
    have e2 : vs.toArray.getD t undef = vs[t] := by rw [Array.getD_eq_getD_getElem?]; simp [h2]
    rw [e1, e2]; exact hc
  · rw [if_neg fun q => ht (by have := q.2; rwa [Nat.zero_add] at this)]
    have e2 : vs.toArray.getD t undef = undef := by rw [Array.getD_eq_getD_getElem?, Array.getElem?_eq_none (by rw [List.size_toArray, hlen]; exact Nat.not_lt.1 ht)]; rfl
    rw [e2]
    show conc σ η (evO .nil (.tmp t)) = _
    rw [evO_tmp, Tr.get_nil]
    exact conc_uv

/-- What a run of a function's rest returns, by comparison: its value, and that the read-only names are there. -/
noncomputable def isRet (P : Program) (n : Nat) (h : Heap) (rs : List ResultVar) (v : AV) : Option CdR → Bool
  | some (.mk e tm ds h' _) => (match e with | .ret => true | _ => false) && (match ds with | [] => true | _ => false) && (match resV tm h' P rs with | some [u] => avEq u v | _ => false) && roSame n h h'
  | none => false
theorem isRet_ok {n : Nat} {h : Heap} {rs : List ResultVar} {v : AV} {r : Option CdR} (e : isRet P n h rs v r = true) : ∃ tm h' c', r = some (.mk .ret tm [] h' c') ∧ resV tm h' P rs = some [v] ∧ roSame n h h' = true := by
  cases r with
  | none => cases e
  | some x =>
    obtain ⟨ex, tm, ds, h', c'⟩ := x
    simp only [isRet, Bool.and_eq_true] at e
    obtain ⟨⟨⟨e1, e2⟩, e3⟩, e4⟩ := e
    have q1 : ex = .ret := by cases ex <;> first | rfl | cases e1
    have q2 : ds = [] := by cases ds <;> first | rfl | cases e2
    subst q1; subst q2
    split at e3
    · rename_i u hu
      rw [avEq_eq e3] at hu
      exact ⟨tm, h', c', rfl, hu, e4⟩
    · cases e3

/-- The rest of a function, which returns. -/
theorem last_plain {sm : Sm} (hm : P.follows .mixedOrders = true) (hng : NoGo P = true) (hsm : SmOk P η sm) {n nt : Nat} (hn : nt ≤ bigN) {l : List Code} {tm : Tmps} {h : Heap} {c k : Nat} {fn : Func} {v : AV} {R : Ending → World → Prop} {w : World} {a : Act}
    (he : isRet P k h fn.results.toList v (codeL P sm n nt l tm [] h c) = true) (H : HR P σ η h c w) (T : TR σ η nt tm a.tmps) (D : a.defers = [])
    (next : ∀ σ' u w' h' c', conc σ' η v = some u → Went P η σ h c w σ' h' c' w' → roSame k h h' = true → R (.returned u) w') : wpL P (bodyPost P fn R) l a w := by
  obtain ⟨tm', h', c', he, hr, hs⟩ := isRet_ok he
  refine wpL_mono ?_ (codeL_ok hm hng hsm n hn he H T (by rw [D]; trivial))
  rintro ex a' w' ⟨σ', rfl, d, T', W⟩
  have hd : a'.defers = [] := by
    cases hd : a'.defers with
    | nil => rfl
    | cons x y => rw [hd] at d; exact d.elim
  obtain ⟨_, _, u, u1, u2⟩ := res_ok (fn := fn) (v := v) (h' := h') (c' := c') W.rel T' (by rw [hr]; show fAV v (fun v => some (CRes.mk v h' c')) = _; rw [fAV_eq])
  exact ⟨hd, u, u1, next σ' u w' h' c' u2 W hs⟩

/-- The first codes of a list apart. -/
theorem wpL_split {Q : Exit → Act → World → Prop} {l : List Code} {a : Act} {w : World} (k : Nat) (h : wpL P (Exit.then (wpL P Q (l.drop k)) Q) (l.take k) a w) : wpL P Q l a w := by
  have := wpL_append h
  rwa [List.take_append_drop] at this
end Go.Eng

/- RepoNone: the summaries, the runs. -/
namespace Go.Proofs.YthkcicilmhpfjaaGreatDoor
open Go.RowKit Go.Eng

noncomputable def xR (b : Bool) : List AV := [.sym 2, .sym 3, .sym 4, .sym 5, .bool b, .sym 7, .sym 8, .sym 9]
noncomputable def yR : List AV := [.sym 10, .sym 11, .sym 12, .sym 13, .sym 14, .sym 15, .sym 16, .sym 17, .sym 18]
noncomputable def zR : List AV := [.sym 20, .int .i64 (.negSucc 0), .sym 21]
/-- What comes by the act, if the spans' block is as it was. -/
noncomputable def mailS (b hb : Bool) (args : List AV) (h : Heap) (c : Nat) : Option CRes := match args with
  | [.agg l] => bif avsEq l (xR b) then
      match hb with
      | false => some (.mk (.agg zR) h c)
      | true => match h.get 1 with
        | some (.ro _ _) => match h.get 6 with
          | some (.ro _ _) => some (.mk (.agg zR) h c)
          | _ => none
        | _ => none
    else none
  | _ => none
noncomputable def workS (args : List AV) (h : Heap) (c : Nat) : Option CRes := match args with
  | [.nilp, .sym 8] => some (.mk (I 1) h c)
  | [.ptr n 0, .sym 8] => match cells? h n with
    | some (_, [_, _, d, st]) => match d with
      | .nilp => some (.mk (I 1) h c)
      | .ptr _ _ => match st with
        | .nilp => some (.mk (I 250) h c)
        | _ => none
      | _ => none
    | _ => none
  | _ => none
noncomputable def exRep (b hb : Bool) : Nat → Option (List AV → Heap → Nat → Option CRes) := fun n => bif Nat.beq n 37 then some (mailS b hb) else bif Nat.beq n 45 then some workS else bif Nat.beq n 35 then some livesS else none
noncomputable def p6 : List Code := match Tryz.f6.body with | some b => flat b [] | none => []
noncomputable def a6 (b : Bool) : List AV := [.agg (xR b), .agg yR, .ptr 7 0, .ptr 8 0, .bool false] ++ (List.replicate 15 uv ++ ([.agg (xR b), .slice 9 0 1 1 false, .bool false, .bool false, .ptr 8 3, .ptr 8 3, .sym 13, .sym 22, .bool false, .bool false, .bool false, .ptr 8 3, .ptr 8 4, .sym 14, .sym 23, .bool false, .bool false] ++ List.replicate 174 uv))
noncomputable def hR (hb : Bool) : Heap := match hb with | true => Tr.set deep hG 6 (some (.ro 111 [])) | false => hG
noncomputable def h3R (b hb : Bool) : Heap := Tr.set deep (Tr.set deep (Tr.set deep (hR hb) 7 (some (.cells 88 (xR b)))) 8 (some (.cells 68 yR))) 9 (some (.cells 88 (xR b)))
set_option maxRecDepth 1000000 in
theorem repTT : isRet Tryz.prog 7 (h3R true true) Tryz.f6.results.toList (.bool true) (codeL Tryz.prog (smMore (exRep true true)) 100000 211 (p6.drop 3) (initF 0 (a6 true) .nil) [] (h3R true true) 10) = true := by decide +kernel
set_option maxRecDepth 1000000 in
theorem repTF : isRet Tryz.prog 7 (h3R true false) Tryz.f6.results.toList (.bool true) (codeL Tryz.prog (smMore (exRep true false)) 100000 211 (p6.drop 3) (initF 0 (a6 true) .nil) [] (h3R true false) 10) = true := by decide +kernel
set_option maxRecDepth 1000000 in
theorem repFT : isRet Tryz.prog 7 (h3R false true) Tryz.f6.results.toList (.bool true) (codeL Tryz.prog (smMore (exRep false true)) 100000 211 (p6.drop 3) (initF 0 (a6 false) .nil) [] (h3R false true) 10) = true := by decide +kernel
set_option maxRecDepth 1000000 in
theorem repFF : isRet Tryz.prog 7 (h3R false false) Tryz.f6.results.toList (.bool true) (codeL Tryz.prog (smMore (exRep false false)) 100000 211 (p6.drop 3) (initF 0 (a6 false) .nil) [] (h3R false false) 10) = true := by decide +kernel
end Go.Proofs.YthkcicilmhpfjaaGreatDoor

/- RepoNone: the summaries are right. -/
namespace Go.Proofs.YthkcicilmhpfjaaGreatDoor
open Go.RowKit Go.Eng

theorem ekR {w w' : World} (K : Kept (fun _ => False) w w') : Eng.Kept (fun _ => False) w w' := ⟨K.os, K.tape, K.output, K.size, K.block⟩

/-- Of the blocks that are only read: where the spans lie. -/
def Lies (η : Env) (hb : Bool) (v : Value) (L : List Spn) : Prop := ∃ B, (∀ k, (η.blk k).isSome = true → k = 1 ∨ k = B) ∧ (hb = true → ∀ w : World, w.heap[B]? = η.blk B → ReadsS w v L) ∧ (hb = false → ∀ w : World, ReadsS w v L)
theorem Lies.reads {η : Env} {hb : Bool} {v : Value} {L : List Spn} (H0 : Lies η hb v L) {σ : Sig} {h : Heap} {c : Nat} {w : World} (H : HR Tryz.prog σ η h c w) (h1 : ∃ t cs, h.get 1 = some (.ro t cs)) (h6 : hb = true → ∃ t cs, h.get 6 = some (.ro t cs)) : ReadsS w v L := by
  obtain ⟨B, hB, ht, hf⟩ := H0
  cases hb with
  | false => exact hf rfl w
  | true =>
    obtain ⟨t1, cs1, e1⟩ := h1
    obtain ⟨t6, cs6, e6⟩ := h6 rfl
    obtain ⟨l, hl, a, fr, vs, t, g1, _, _, _, g5⟩ := H.obj 6 _ e6
    obtain ⟨s, hs⟩ := H.glob 1 (by rw [show Tryz.prog.globals.size = 6 by kernel_rfl]; decide)
    rcases hB l.blk (by rw [g5]; rfl) with e | e
    · exact absurd (H.inj 6 1 l ⟨1, 0, s⟩ (by rw [e6]; rfl) (by rw [e1]; rfl) hl hs e) (by decide)
    · rw [← e] at ht
      exact ht rfl w (g1.trans g5.symm)

theorem mailS_ok {η : Env} {m : Ac} {L : List Spn} {b hb : Bool} (hx : ∀ σ, concs σ η (xR b) = some m.cells) (hz : ∀ σ, concs σ η zR = some [.int .i64 (mailN m), .int .i64 (-1), .string (mailD m L)])
    (hk0 : 0 ≤ m.ki) (hk1 : m.ki ≤ 255) (hho : m.ho ≤ 9223372036854775807) (hr : Lies η hb m.sp L) (hl : L.length ≤ 20) (hfit : ∀ y ∈ L, y.se.size ≤ 9223372036854775807 ∧ y.ho.size ≤ 9223372036854775807 ∧ y.no.size ≤ 9223372036854775807)
    {args : List AV} {h : Heap} {c : Nat} {v : AV} {h' : Heap} {c' : Nat} (he : mailS b hb args h c = some (.mk v h' c')) {σ : Sig} {w : World} {avs : List Value} (H : HR Tryz.prog σ η h c w) (ha : concs σ η args = some avs) : Calls Tryz.prog 37 avs.toArray w (Done Tryz.prog η σ h c w v h' c') := by
  unfold mailS at he
  split at he
  · rename_i l
    cases e : avsEq l (xR b) with
    | false => simp [e] at he
    | true =>
      simp only [e, cond_true] at he
      rw [avsEq_eq e] at ha
      obtain ⟨x, rs, hp, hq, rfl⟩ := concs_cons.1 ha
      simp only [concs, Option.some.injEq] at hq
      subst hq
      obtain ⟨vs, h2, _, rfl⟩ := conc_agg.1 hp
      obtain rfl := Option.some.inj ((hx σ).symm.trans h2)
      have key : ReadsS w m.sp L ∧ AV.agg zR = v ∧ h = h' ∧ c = c' := by
        cases hb with
        | false =>
          simp only [Option.some.injEq, CRes.mk.injEq] at he
          obtain ⟨B, _, _, hf⟩ := hr
          exact ⟨hf rfl w, he.1, he.2.1, he.2.2⟩
        | true =>
          simp only at he
          split at he
          · rename_i t1 cs1 e1
            split at he
            · rename_i t6 cs6 e6
              simp only [Option.some.injEq, CRes.mk.injEq] at he
              exact ⟨hr.reads H ⟨_, _, e1⟩ fun _ => ⟨_, _, e6⟩, he.1, he.2.1, he.2.2⟩
            · cases he
          · cases he
      obtain ⟨R, rfl, rfl, rfl⟩ := key
      refine (mail_all hk0 hk1 hho R hl hfit).mono ?_
      rintro e w' ⟨rfl, K⟩
      exact ⟨_, σ, rfl, conc_agg.2 ⟨_, hz σ, rfl, rfl⟩, Went.kept' H (ekR K)⟩
  · cases he

theorem workS_ok {η : Env} {n : Int} (h8 : η.val 8 = .int .u8 n) (h0 : 0 ≤ n) (h1 : n ≤ 255)
    {args : List AV} {h : Heap} {c : Nat} {v : AV} {h' : Heap} {c' : Nat} (he : workS args h c = some (.mk v h' c')) {σ : Sig} {w : World} {avs : List Value} (H : HR Tryz.prog σ η h c w) (ha : concs σ η args = some avs) : Calls Tryz.prog 45 avs.toArray w (Done Tryz.prog η σ h c w v h' c') := by
  have c8 : ∀ σ, conc σ η (.sym 8) = some (.int .u8 n) := fun σ => by simp only [conc, h8]; rfl
  unfold workS at he
  split at he
  · simp only [Option.some.injEq, CRes.mk.injEq] at he
    obtain ⟨rfl, rfl, rfl⟩ := he
    obtain ⟨p, rs, hp, hq, rfl⟩ := concs_cons.1 ha
    obtain ⟨q, rs2, hp2, hq2, rfl⟩ := concs_cons.1 hq
    simp only [concs, Option.some.injEq] at hq2
    subst hq2
    simp only [conc, Option.some.injEq] at hp
    subst hp
    obtain rfl := Option.some.inj ((c8 σ).symm.trans hp2)
    refine (work45 (state0 w) (by rfl) h0 h1).mono ?_
    rintro e w' ⟨rfl, rfl⟩
    exact ⟨_, σ, rfl, rfl, Went.refl H⟩
  · rename_i k
    split at he
    · rename_i t u0 u1 d st hcs
      obtain ⟨p, rs, hp, hq, rfl⟩ := concs_cons.1 ha
      obtain ⟨q, rs2, hp2, hq2, rfl⟩ := concs_cons.1 hq
      simp only [concs, Option.some.injEq] at hq2
      subst hq2
      obtain ⟨l, hl, rfl⟩ := conc_ptr.1 hp
      obtain rfl := Option.some.inj ((c8 σ).symm.trans hp2)
      obtain ⟨vs, k1, _, k3, _⟩ := H.cells hcs hl
      obtain ⟨a0, r0, j0, j1, rfl⟩ := concs_cons.1 k1
      obtain ⟨a1, r1, j2, j3, rfl⟩ := concs_cons.1 j1
      obtain ⟨a2, r2, j4, j5, rfl⟩ := concs_cons.1 j3
      obtain ⟨a3, r3, j6, j7, rfl⟩ := concs_cons.1 j5
      have q2 := k3 2 a2 rfl
      have q3 := k3 3 a3 rfl
      split at he
      · simp only [Option.some.injEq, CRes.mk.injEq] at he
        obtain ⟨rfl, rfl, rfl⟩ := he
        simp only [conc, Option.some.injEq] at j4
        subst j4
        refine (work45 (state1 q2) (by rfl) h0 h1).mono ?_
        rintro e w' ⟨rfl, rfl⟩
        exact ⟨_, σ, rfl, rfl, Went.refl H⟩
      · split at he
        · simp only [Option.some.injEq, CRes.mk.injEq] at he
          obtain ⟨rfl, rfl, rfl⟩ := he
          obtain ⟨ld, _, rfl⟩ := conc_ptr.1 j4
          simp only [conc, Option.some.injEq] at j6
          subst j6
          refine (work45 (state2 q2 q3) (by rfl) h0 h1).mono ?_
          rintro e w' ⟨rfl, rfl⟩
          exact ⟨_, σ, rfl, rfl, Went.refl H⟩
        · cases he
      · cases he
    · cases he
  · cases he
end Go.Proofs.YthkcicilmhpfjaaGreatDoor

/- RepoNone of any act and any question. -/
namespace Go.Proofs.YthkcicilmhpfjaaGreatDoor
open Go.RowKit Go.Shelf Go.Lib Go.Eng

theorem exRep_ok {η : Env} {m : Ac} {L : List Spn} {b hb : Bool} (hx : ∀ σ, concs σ η (xR b) = some m.cells) (hz : ∀ σ, concs σ η zR = some [.int .i64 (mailN m), .int .i64 (-1), .string (mailD m L)]) (h8 : η.val 8 = .int .u8 m.nn) (hn0 : 0 ≤ m.nn) (hn1 : m.nn ≤ 255)
    (hk0 : 0 ≤ m.ki) (hk1 : m.ki ≤ 255) (hho : m.ho ≤ 9223372036854775807) (hr : Lies η hb m.sp L) (hl : L.length ≤ 20) (hfit : ∀ y ∈ L, y.se.size ≤ 9223372036854775807 ∧ y.ho.size ≤ 9223372036854775807 ∧ y.no.size ≤ 9223372036854775807) : SmOk Tryz.prog η (smMore (exRep b hb)) := by
  refine smMore_ok fun f g hg args h c v h' c' he σ w avs H ha => ?_
  unfold exRep at hg
  cases e : Nat.beq f 37 with
  | true =>
    simp only [e, cond_true, Option.some.injEq] at hg
    subst hg
    have := Nat.eq_of_beq_eq_true e
    subst this
    exact leads_of noGo Tryz.func37 (by kernel_rfl) (mailS_ok hx hz hk0 hk1 hho hr hl hfit he H ha)
  | false =>
    simp only [e, cond_false] at hg
    cases e' : Nat.beq f 45 with
    | true =>
      simp only [e', cond_true, Option.some.injEq] at hg
      subst hg
      have := Nat.eq_of_beq_eq_true e'
      subst this
      exact leads_of noGo Tryz.func45 (by kernel_rfl) (workS_ok h8 hn0 hn1 he H ha)
    | false =>
      simp only [e', cond_false] at hg
      cases e3 : Nat.beq f 35 with
      | true =>
        simp only [e3, cond_true, Option.some.injEq] at hg
        subst hg
        have := Nat.eq_of_beq_eq_true e3
        subst this
        exact leads_of noGo Tryz.func35 (by kernel_rfl) (livesS_ok (f := 35) (fun R => lives26_any R) he H ha)
      | false => simp [e3] at hg

theorem named_new {P : Program} {η : Env} {σ : Sig} {h : Heap} {c t : Nat} {w : World} {cs : List AV} {vs : List Value} (H : HR P σ η h c w) (hc : c ≤ bigN) (hv : ∀ σ, concs σ η cs = some vs) (ho : allOne vs = true) (_hs : vs.length = P.cellsOf t) :
    Went P η σ h c w (upd σ c ⟨w.heap.size, 0, 0⟩) (Tr.set deep h c (some (.cells t cs))) (c + 1) (w.alloc (.cells vs.toArray t)) := by
  refine new_ok (sl := 0) H hc (O := .cells vs.toArray t) rfl rfl rfl rfl ⟨vs.toArray, (0, 0), vs, heap_alloc_new w _, fun i _ q => by have := q.2; simp at this, hv _, ho, fun i v hi => by simpa using hi, by simp, by simp⟩

def seen6 (x y : Value) (n : Nat) (sv ho : ByteArray) : List Value := [x, y, .pointer (some ⟨n, 0, none⟩), .pointer (some ⟨n + 1, 0, none⟩), .bool false] ++ (List.replicate 15 undef ++ ([x, .slice (some ⟨n + 2, 0, none⟩) 1 1, .bool false, .bool false, .pointer (some ⟨n + 1, 3, none⟩), .pointer (some ⟨n + 1, 3, none⟩), .string sv, .int .i64 sv.size, .bool false, .bool false, .bool false, .pointer (some ⟨n + 1, 3, none⟩), .pointer (some ⟨n + 1, 4, none⟩), .string ho, .int .i64 ho.size, .bool false, .bool false] ++ List.replicate 174 undef))
theorem concs_rep' {σ : Sig} {η : Env} : ∀ n, concs σ η (List.replicate n uv) = some (List.replicate n undef)
  | 0 => rfl
  | n + 1 => by rw [List.replicate_succ, List.replicate_succ]; exact concs_cons.2 ⟨_, _, conc_uv, concs_rep' n, rfl⟩

theorem RoHeap.kept {η : Env} {w w' : World} (R : RoHeap Tryz.prog η hG w) (K : Kept (fun _ => False) w w') : RoHeap Tryz.prog η hG w' := fun n o hn => by
  obtain ⟨h1, t, cs, h2, c, fr, vs, t0, g1, g2⟩ := R n o hn
  have hl : n < w.heap.size := by
    rcases Nat.lt_or_ge n w.heap.size with h | h
    · exact h
    · rw [Array.getElem?_eq_none h] at g1; cases g1
  exact ⟨h1, t, cs, h2, c, fr, vs, t0, (K.block n hl (fun h => h)).trans g1, g2⟩

theorem hR_get {hb : Bool} {n : Nat} (h : n ≠ 6) : (hR hb).get n = hG.get n := by
  cases hb with
  | false => rfl
  | true => exact Tr.get_set_other deep hG 6 n _ (Ne.symm h)

set_option maxHeartbeats 1000000 in
set_option maxRecDepth 1000000 in
theorem repoNone_any {η : Env} {m : Ac} {a : Ask} {L : List Spn} {hb : Bool} {s : Sig} {w : World} (hx : ∀ σ, concs σ η (xR m.od) = some m.cells) (hy : ∀ σ, concs σ η yR = some a.cells) (hz : ∀ σ, concs σ η zR = some [.int .i64 (mailN m), .int .i64 (-1), .string (mailD m L)])
    (h8 : η.val 8 = .int .u8 m.nn) (h22 : η.val 22 = .int .i64 a.sv.size) (h23 : η.val 23 = .int .i64 a.ho.size) (hn0 : 0 ≤ m.nn) (hn1 : m.nn ≤ 255)
    (hk0 : 0 ≤ m.ki) (hk1 : m.ki ≤ 255) (hho : m.ho ≤ 9223372036854775807) (hr : Lies η hb m.sp L) (hl : L.length ≤ 9223372036854775807) (hfit : ∀ y ∈ L, y.se.size ≤ 9223372036854775807 ∧ y.ho.size ≤ 9223372036854775807 ∧ y.no.size ≤ 9223372036854775807)
    (hreads : ReadsS w m.sp L) (R : RoHeap Tryz.prog η hG w) (H0 : RoS Tryz.prog η s (hR hb) 7 w) :
    Calls Tryz.prog 6 #[.agg m.cells.toArray, .agg a.cells.toArray] w fun e w' => e = .returned (.bool true) ∧ Eng.Kept (fun _ => False) w w' := by
  have C2 := Lib.hid (fun w' (K : Kept (fun _ => False) w w') => lives26_any (RoHeap.kept R K))
  have KA : ∀ o1 o2 o3, Kept (fun _ => False) w (((w.alloc o1).alloc o2).alloc o3) := fun _ _ _ => (((Kept.refl _ _).alloc _).alloc _).alloc _
  have ek : ∀ {w1 w2 : World}, Kept (fun _ => False) w w1 → Eng.Kept (fun _ => False) w1 w2 → Eng.Kept (fun _ => False) w w2 := fun h k => ⟨k.os.trans h.os, k.tape.trans h.tape, k.output.trans h.output, Nat.le_trans h.size k.size, fun i hi q => (k.block i (Nat.lt_of_lt_of_le hi h.size) q).trans (h.block i hi q)⟩
  have B34 := Lib.hid (fun (w' : World) (K : Kept (fun _ => False) w w') (g o cap : Nat) (hc : ∀ j u, m.cells[j]? = some u → w'.cell? ⟨g, o + j, none⟩ = some u) => beyond34 (w := w') (cap := cap) hc (hreads.keptF K) hl hfit)
  have CH := Lib.hid hx
  have CY := Lib.hid hy
  have hlen : m.cells.length = 8 := rfl
  obtain ⟨X, hX⟩ : ∃ X, m.cells = X := ⟨_, rfl⟩
  obtain ⟨BV, hBV⟩ : ∃ BV, beyA m L = BV := ⟨_, rfl⟩
  rw [hBV] at B34
  have HBV := Lib.hid hBV
  unfold Ac.cells Ask.cells
  go_enter Tryz.func6, Tryz.ntmps6
  refine wp_flat (w := w) ?_
  have hp : flat _ [] = p6 := rfl
  rw [hp]
  refine wpL_split 3 ?_
  obtain ⟨R6, hR6⟩ : ∃ R6, wpL Tryz.prog (bodyPost Tryz.prog Tryz.f6 fun e w' => e = .returned (.bool true) ∧ Eng.Kept (fun _ => False) w w') (p6.drop 3) = R6 := ⟨_, rfl⟩
  rw [hR6]
  have key : beyA m L = false → ∀ (t : Array Value) (w' : World), t = (seen6 (.agg m.cells.toArray) (.agg a.cells.toArray) w.heap.size a.sv a.ho).toArray → w' = ((w.alloc (.cells m.cells.toArray 88)).alloc (.cells a.cells.toArray 68)).alloc (.cells m.cells.toArray 88) → R6 ⟨t, []⟩ w' := by
    rintro hbey t w' rfl rfl
    rw [← hR6]
    have hL20 : L.length ≤ 20 := by unfold beyA bey9 at hbey; simp at hbey; omega
    have one : allOne m.cells = true := by
      obtain ⟨ao, cap, hsp, _⟩ := hreads
      simp [Ac.cells, allOne, hsp, Value.oneCell']
    have W1 := named_new (cs := xR m.od) (vs := m.cells) (t := 88) H0.start (by decide) hx one (by kernel_rfl)
    have W2 := named_new (cs := yR) (vs := a.cells) (t := 68) W1.rel (by decide) hy rfl (by kernel_rfl)
    have W3 := named_new (cs := xR m.od) (vs := m.cells) (t := 88) W2.rel (by decide) hx one (by kernel_rfl)
    have ev : isRet Tryz.prog 7 (h3R m.od hb) Tryz.f6.results.toList (.bool true) (codeL Tryz.prog (smMore (exRep m.od hb)) 100000 211 (p6.drop 3) (initF 0 (a6 m.od) .nil) [] (h3R m.od hb) 10) = true := by
      cases m.od <;> cases hb
      · exact repFF
      · exact repFT
      · exact repTF
      · exact repTT
    have hcs : ∀ σ : Sig, σ 7 = some ⟨w.heap.size, 0, 0⟩ → σ 8 = some ⟨w.heap.size + 1, 0, 0⟩ → σ 9 = some ⟨w.heap.size + 2, 0, 0⟩ → concs σ η (a6 m.od) = some (seen6 (.agg m.cells.toArray) (.agg a.cells.toArray) w.heap.size a.sv a.ho) := by
      intro σ q7 q8 q9
      have ex : conc σ η (.agg (xR m.od)) = some (.agg m.cells.toArray) := conc_agg.2 ⟨_, hx σ, one, rfl⟩
      have ey : conc σ η (.agg yR) = some (.agg a.cells.toArray) := conc_agg.2 ⟨_, hy σ, rfl, rfl⟩
      have e13 : conc σ η (.sym 13) = some (.string a.sv) := by
        obtain ⟨v, h1, h2⟩ := (concs_get (hy σ) 3).2 (.sym 13) rfl
        cases h1; exact h2
      have e14 : conc σ η (.sym 14) = some (.string a.ho) := by
        obtain ⟨v, h1, h2⟩ := (concs_get (hy σ) 4).2 (.sym 14) rfl
        cases h1; exact h2
      have e22 : conc σ η (.sym 22) = some (.int .i64 a.sv.size) := by simp only [conc, h22]; rfl
      have e23 : conc σ η (.sym 23) = some (.int .i64 a.ho.size) := by simp only [conc, h23]; rfl
      have p7 : ∀ o, conc σ η (.ptr 7 o) = some (.pointer (some ⟨w.heap.size, o, none⟩)) := fun o => by simp only [conc, q7, Nat.zero_add]
      have p8 : ∀ o, conc σ η (.ptr 8 o) = some (.pointer (some ⟨w.heap.size + 1, o, none⟩)) := fun o => by simp only [conc, q8, Nat.zero_add]
      have p9 : conc σ η (.slice 9 0 1 1 false) = some (.slice (some ⟨w.heap.size + 2, 0, none⟩) 1 1) := by simp only [conc, q9]; rfl
      have eb : ∀ b, conc σ η (.bool b) = some (.bool b) := fun b => rfl
      unfold a6 seen6
      refine concs_append ?_ (concs_append (concs_rep' 15) (concs_append ?_ (concs_rep' 174)))
      · simp only [concs, ex, ey, p7, p8, eb]
      · simp only [concs, ex, p8, p9, eb, e13, e14, e22, e23]
    have hz3 : (seen6 (.agg m.cells.toArray) (.agg a.cells.toArray) w.heap.size a.sv a.ho).length = 211 := rfl
    have hT := hcs (upd (upd (upd s 7 ⟨w.heap.size, 0, 0⟩) 8 ⟨(w.alloc (.cells m.cells.toArray 88)).heap.size, 0, 0⟩) 9 ⟨((w.alloc (.cells m.cells.toArray 88)).alloc (.cells a.cells.toArray 68)).heap.size, 0, 0⟩) (by rw [upd_other (by decide), upd_other (by decide), upd_same]) (by rw [upd_other (by decide), upd_same]; simp) (by rw [upd_same]; simp)
    refine last_plain (nt := 211) (k := 7) (v := .bool true) mixed noGo (exRep_ok (b := m.od) (hb := hb) hx hz h8 hn0 hn1 hk0 hk1 hho hr hL20 hfit) (by decide) ev W3.rel (hz3 ▸ tr_init hT (by rw [hz3]; decide)) rfl ?_
    intro σ' u w' h' c' hu W hs
    rw [conc_bool] at hu
    subst hu
    refine ⟨rfl, H0.stop (((W1.trans W2).trans W3).trans W) fun n o hn => ?_⟩
    have hn7 : n < 7 := by
      rcases Nat.lt_or_ge n 7 with h | h
      · exact h
      · obtain ⟨b, hb', _⟩ := H0.obj n o hn
        rw [H0.new n h] at hb'
        cases hb'
    refine ro_names (o := o) hn7 ?_ hs
    rw [← hn]
    show (Tr.set deep (Tr.set deep (Tr.set deep (hR hb) 7 _) 8 _) 9 _).get n = _
    rw [Tr.get_set_other deep _ 9 n _ (by omega), Tr.get_set_other deep _ 8 n _ (by omega), Tr.get_set_other deep _ 7 n _ (by omega)]
  have e3 : p6.take 3 = (flat (Tryz.f6.body.get rfl) []).take 3 := rfl
  rw [e3]
  simp only [Tryz.f6, Option.get_some, flat, List.take_succ_cons, List.take_zero, wpL]
  go_wp2_with fail
  refine (B34.out _ (KA _ _ _) _ 0 1 (fun j u hu => by rw [Nat.zero_add, World.cell?_alloc_at _ _ _ _ (by simp)]; show m.cells.toArray[j]? = some u; simpa using hu)).mono ?_
  rintro e w4 ⟨rfl, rfl⟩
  cases BV with
  | true =>
    go_wp2_with (go_at_call 35; refine (C2.out _ (KA _ _ _)).mono ?_; rintro e w4 ⟨rfl, k4⟩)
    go_ret
    exact ⟨rfl, ek (KA _ _ _) k4⟩
  | false =>
    by_cases g1 : (100 : Int) < (a.sv.size : Int)
    · go_wp2_with (go_at_call 35; refine (C2.out _ (KA _ _ _)).mono ?_; rintro e w4 ⟨rfl, k4⟩)
      go_ret
      exact ⟨rfl, ek (KA _ _ _) k4⟩
    · by_cases g2 : (100 : Int) < (a.ho.size : Int)
      · go_wp2_with (go_at_call 35; refine (C2.out _ (KA _ _ _)).mono ?_; rintro e w4 ⟨rfl, k4⟩)
        go_ret
        exact ⟨rfl, ek (KA _ _ _) k4⟩
      · go_wp2
        have g1' : decide ((100 : Int) < (a.sv.size : Int)) = false := by simpa using g1
        have g2' : decide ((100 : Int) < (a.ho.size : Int)) = false := by simpa using g2
        simp only [g1', g2', Bool.or_self]
        exact key HBV.out _ _ rfl rfl
end Go.Proofs.YthkcicilmhpfjaaGreatDoor

/- How an act of the repository's statements reads as an argument; where its spans lie. -/
namespace Go.Proofs.YthkcicilmhpfjaaGreatDoor
open Go.ChangeShapes Go.WideShapes Go.ChangeAt Go.RowKit Go.Deep Go.Eng

theorem cellsOf24 : Tryz.prog.cellsOf 24 = 3 := by kernel_rfl
theorem cellsOf22 : Tryz.prog.cellsOf 22 = 1 := by kernel_rfl
theorem cellsOf4 : Tryz.prog.cellsOf 4 = 1 := by kernel_rfl
theorem cellsOf79' : Tryz.prog.cellsOf 79 = 1 := by kernel_rfl
theorem cellsOf88 : Tryz.prog.cellsOf 88 = 8 := by kernel_rfl
theorem wf_i64 {n : Int} (h : (Lit.int .i64 n).wf = true) : n ≤ 9223372036854775807 := by simp [Lit.wf, IntKind.max, IntKind.min, IntKind.bits, IntKind.signed] at h; omega
theorem wf_u8 {n : Int} (h : (Lit.int .u8 n).wf = true) : 0 ≤ n ∧ n ≤ 255 := by simp [Lit.wf, IntKind.max, IntKind.min, IntKind.bits, IntKind.signed] at h; omega
section
variable {H : Type} {enc : TypeId × Value → H} {w : World} {spare : Nat → Bool} {held : Bool} {fuel : Nat} {cs : List Value} {x : DataW H × List MemPlace}
def Fit (R : List Spn) : Prop := R.length ≤ maxLen ∧ ∀ y ∈ R, y.se.size ≤ maxLen ∧ y.ho.size ≤ maxLen ∧ y.no.size ≤ maxLen
set_option maxRecDepth 100000 in
theorem bat_cells (h : DataW.trod enc Tryz.prog w 0 spare held fuel 24 cs = some x) : ∃ (ho fi : Int) (v : Value), cs = [.int .i64 ho, .int .i64 fi, v] ∧ ho ≤ 9223372036854775807 ∧ ∃ R : List Spn, ReadsS w v R ∧ Fit R := by
  obtain ⟨xs, n, _, rfl, hl, hlen, hf⟩ := DataW.trod_struct Tryz.underlying24 h
  rw [cellsOf24] at hl
  match xs, hlen, cs, hl with
  | [y0, y1, y2], _, [c0, c1, c2], _ =>
    have h0 := hf 0 _ rfl
    have h1 := hf 1 _ rfl
    have h2 := hf 2 _ rfl
    simp [cellsOf3] at h0
    simp [cellsOf3] at h1
    simp [cellsOf22] at h2
    obtain ⟨a0, e0, _, b0⟩ := DataW.trod_int Tryz.underlying3 h0
    obtain ⟨a1, e1, _, _⟩ := DataW.trod_int Tryz.underlying3 h1
    obtain ⟨v, e2, R, r1, r2, r3⟩ := spans_open h2
    simp only [List.cons.injEq, and_true] at e0 e1 e2
    exact ⟨a0, a1, v, by rw [e0, e1, e2], wf_i64 b0, R, r1, r2, r3⟩
set_option maxRecDepth 100000 in
theorem act_cells (h : DataW.trod enc Tryz.prog w 0 spare held fuel 88 cs = some x) : ∃ m : Ac, cs = m.cells ∧ (0 ≤ m.ki ∧ m.ki ≤ 255) ∧ (0 ≤ m.nn ∧ m.nn ≤ 255) ∧ m.ho ≤ 9223372036854775807 ∧ ∃ R : List Spn, ReadsS w m.sp R ∧ Fit R := by
  obtain ⟨xs, n, _, rfl, hl, hlen, hf⟩ := DataW.trod_struct Tryz.underlying88 h
  rw [cellsOf88] at hl
  match xs, hlen, cs, hl with
  | [y0, y1, y2, y3, y4, y5], _, [c0, c1, c2, c3, c4, c5, c6, c7], _ =>
    have h0 := hf 0 _ rfl
    have h1 := hf 1 _ rfl
    have h2 := hf 2 _ rfl
    have h3 := hf 3 _ rfl
    have h4 := hf 4 _ rfl
    have h5 := hf 5 _ rfl
    simp [cellsOf5] at h0
    simp [cellsOf24] at h1
    simp [cellsOf4] at h2
    simp [cellsOf9] at h3
    simp [cellsOf5] at h4
    simp [cellsOf79'] at h5
    obtain ⟨a0, e0, _, b0⟩ := DataW.trod_int Tryz.underlying5 h0
    obtain ⟨ho, fi, v, e1, b1, R, r⟩ := bat_cells h1
    obtain ⟨a2, e2, _⟩ := DataW.trod_bool Tryz.underlying4 h2
    obtain ⟨a3, e3, _, _⟩ := DataW.trod_string Tryz.underlying9 h3
    obtain ⟨a4, e4, _, b4⟩ := DataW.trod_int Tryz.underlying5 h4
    simp only [List.cons.injEq, and_true] at e0 e1 e2 e3 e4
    obtain ⟨rfl, rfl, rfl⟩ := e1
    have e5 : ∃ ka kl kc, c7 = .slice ka kl kc := by
      rcases open_slice Tryz.underlying79 h5 with ⟨hcs, _⟩ | ⟨b, len, cap, m, n, D, Pl, hcs, _⟩
      · exact ⟨_, _, _, (List.cons.inj hcs).1⟩
      · exact ⟨_, _, _, (List.cons.inj hcs).1⟩
    obtain ⟨ka, kl, kc, e5⟩ := e5
    exact ⟨⟨a0, ho, fi, _, a2, a3, a4, ka, kl, kc⟩, by rw [e0, e2, e3, e4, e5]; rfl, wf_u8 b0, wf_u8 b4, b1, R, r⟩
end

/-- An address that holds a number is none of the variable's. -/
theorem laid_apart {W : World} {r : List (String × DataW Unit)} (h : laidMet Tryz.prog (("strconv.ErrSyntax", Rows.laid_strconv_ErrSyntax) :: r) W) {b o : Nat} {k : IntKind} {n : Int} (hc : W.cell? ⟨b, o, none⟩ = some (.int k n)) : b ≠ 1 := by
  rintro rfl
  obtain ⟨a, s, hv, _⟩ := laid_sentinel h (g := 1) (ti := 261) (tp := 591) (te := 593) (ts := 9) (by kernel_rfl) (by kernel_rfl) Tryz.underlying261 row591 Tryz.underlying591 Tryz.underlying593 rfl rfl Tryz.underlying9 (by kernel_rfl) (by kernel_rfl)
  have hg : Tryz.prog.globalNamed "strconv.ErrSyntax" = some 1 := by kernel_rfl
  unfold World.var? at hv
  rw [hg] at hv
  simp only [Option.bind_some] at hv
  split at hv
  · rename_i cs t fr e
    cases hv
    unfold World.cell? at hc
    simp only [e] at hc
    match o with
    | 0 => simp at hc
    | o + 1 => simp at hc
  · cases hv

noncomputable def envR (W : World) (m : Ac) (a : Ask) (L : List Spn) (B : Option Nat) : Env := ⟨fun i => match i with
  | 1 => (W.cell? ⟨1, 0, none⟩).getD undef
  | 20 => .int .i64 (mailN m)
  | 21 => .string (mailD m L)
  | 22 => .int .i64 a.sv.size
  | 23 => .int .i64 a.ho.size
  | i => if i < 10 then m.cells.getD (i - 2) undef else a.cells.getD (i - 10) undef, fun k => if k = 1 ∨ B = some k then W.heap[k]? else none⟩
def sigR (B : Option Nat) : Sig := fun g => if g < 6 then some ⟨g, 0, 0⟩ else if g = 6 then B.map fun b => ⟨b, 0, 0⟩ else none
theorem envR_x (W : World) (m : Ac) (a : Ask) (L : List Spn) (B : Option Nat) {ao : Option Addr} {n c : Nat} (h : m.sp = .slice ao n c) (σ : Sig) : concs σ (envR W m a L B) (xR m.od) = some m.cells := by
  obtain ⟨m1, m2, m3, m4, m5, m6, m7, m8, m9, m10⟩ := m
  simp only at h
  subst h
  rfl
theorem envR_y (W : World) (m : Ac) (a : Ask) (L : List Spn) (B : Option Nat) (σ : Sig) : concs σ (envR W m a L B) yR = some a.cells := rfl
theorem envR_z (W : World) (m : Ac) (a : Ask) (L : List Spn) (B : Option Nat) (σ : Sig) : concs σ (envR W m a L B) zR = some [.int .i64 (mailN m), .int .i64 (-1), .string (mailD m L)] := rfl

theorem hR6 : (hR true).get 6 = some (.ro 111 []) := Tr.get_set_same deep hG 6 _ (by decide)
theorem glob6 : Tryz.prog.globals.size = 6 := by kernel_rfl
theorem ros_some {η : Env} {W : World} {b : Nat} {arr : Array Value} {t : TypeId} {fr : Nat × Nat} (R : RoHeap Tryz.prog η hG W) (hW : W.heap[b]? = some (.cells arr t fr)) (hb : η.blk b = W.heap[b]?) (h1 : b ≠ 1) : RoS Tryz.prog η (sigR (some b)) (hR true) 7 W := by
  have s6 : sigR (some b) 6 = some ⟨b, 0, 0⟩ := rfl
  have sg : ∀ g, g < 6 → sigR (some b) g = some ⟨g, 0, 0⟩ := fun g hg => by simp [sigR, hg]
  have lt : ∀ n o, n ≠ 6 → (hR true).get n = some o → n = 1 := fun n o h hn => by rw [hR_get h] at hn; exact (hG_get hn).1
  refine ⟨fun g hg => sg g (by rwa [glob6] at hg), fun n hn => ?_, fun n o hn => ?_, fun n m l k hn hm hl hk e => ?_⟩
  · unfold sigR
    rw [if_neg (by omega), if_neg (by omega)]
  · by_cases e : n = 6
    · subst e
      rw [hR6] at hn
      cases hn
      exact ⟨b, s6, 111, [], rfl, arr, fr, [], t, hW, fun _ => rfl, fun i v h => by simp at h, rfl, hb.trans hW⟩
    · rw [hR_get e] at hn
      obtain ⟨k1, t', cs, rfl, c, fr', vs, t0, g1, g2, g3, g4, g5⟩ := R n o hn
      rw [glob6] at k1
      exact ⟨n, sg n k1, t', cs, rfl, c, fr', vs, t0, g1, g2, g3, g4, g5⟩
  · obtain ⟨o, ho⟩ := Option.isSome_iff_exists.1 hn
    obtain ⟨o', ho'⟩ := Option.isSome_iff_exists.1 hm
    by_cases en : n = 6 <;> by_cases em : m = 6
    · rw [en, em]
    · have := lt m o' em ho'
      subst this; subst en
      rw [s6] at hl; rw [sg 1 (by decide)] at hk
      cases hl; cases hk
      exact absurd e h1
    · have := lt n o en ho
      subst this; subst em
      rw [s6] at hk; rw [sg 1 (by decide)] at hl
      cases hl; cases hk
      exact absurd e.symm h1
    · rw [lt n o en ho, lt m o' em ho']
theorem ros_none {η : Env} {W : World} (R : RoHeap Tryz.prog η hG W) : RoS Tryz.prog η (sigR none) (hR false) 7 W := by
  have sg : ∀ g, g < 6 → sigR none g = some ⟨g, 0, 0⟩ := fun g hg => by simp [sigR, hg]
  refine ⟨fun g hg => sg g (by rwa [glob6] at hg), fun n hn => ?_, fun n o hn => ?_, fun n m l k hn hm hl hk e => ?_⟩
  · unfold sigR
    rw [if_neg (by omega), if_neg (by omega)]
  · obtain ⟨k1, t', cs, rfl, c, fr', vs, t0, g1, g2, g3, g4, g5⟩ := R n o hn
    rw [glob6] at k1
    exact ⟨n, sg n k1, t', cs, rfl, c, fr', vs, t0, g1, g2, g3, g4, g5⟩
  · obtain ⟨o, ho⟩ := Option.isSome_iff_exists.1 hn
    obtain ⟨o', ho'⟩ := Option.isSome_iff_exists.1 hm
    rw [(hG_get ho).1, (hG_get ho').1]

theorem reads_of_block {w w' : World} {b o n cap : Nat} {L : List Spn} (hc : ∀ j u, (cellsS L)[j]? = some u → w.cell? ⟨b, o + j, none⟩ = some u) (hn : L.length = n) (hb : w'.heap[b]? = w.heap[b]?) : ReadsS w' (.slice (some ⟨b, o, none⟩) n cap) L :=
  ⟨_, cap, by rw [hn], .inr ⟨b, o, rfl, fun j u hu => (World.cell?_of_block (w := w) hb).trans (hc j u hu)⟩⟩

/-- RepoNone of what is handed in. -/
theorem repoNone_in {r : List (String × DataW Unit)} {W : World} {m : Ac} {a : Ask} {L : List Spn} (hL : laidMet Tryz.prog (("strconv.ErrSyntax", Rows.laid_strconv_ErrSyntax) :: r) W) (hn : 0 ≤ m.nn ∧ m.nn ≤ 255) (hk : 0 ≤ m.ki ∧ m.ki ≤ 255) (hho : m.ho ≤ 9223372036854775807) (hr : ReadsS W m.sp L) (hf : Fit L) :
    Calls Tryz.prog 6 #[.agg m.cells.toArray, .agg a.cells.toArray] W fun e w' => e = .returned (.bool true) ∧ Eng.Kept (fun _ => False) W w' := by
  obtain ⟨f1, f2⟩ := hf
  unfold maxLen at f1 f2
  have hreads := hr
  obtain ⟨ao, cap, hsp, hc⟩ := hr
  cases hl0 : L with
  | nil =>
    subst hl0
    have R : RoHeap Tryz.prog (envR W m a [] none) hG W := laid_roE hL rfl (by simp [envR])
    refine repoNone_any (η := envR W m a [] none) (hb := false) (s := sigR none) (L := []) (envR_x W m a [] none hsp) (envR_y W m a [] none) (envR_z W m a [] none) ?_ rfl rfl hn.1 hn.2 hk.1 hk.2 hho ⟨0, fun k hk => ?_, fun h => (by cases h), fun _ w => ?_⟩ f1 f2 hreads R (ros_none R)
    · rfl
    · left
      simp only [envR] at hk
      by_cases e : k = 1
      · exact e
      · simp [e] at hk
    · rw [hsp]
      exact ⟨ao, cap, rfl, .inl rfl⟩
  | cons y t =>
    obtain ⟨b, o, rfl, hcc⟩ := hc.resolve_left (by rw [hl0]; simp)
    clear hc
    have hc := hcc
    clear hcc
    have c0 : W.cell? ⟨b, o + 0, none⟩ = some (.int .i64 y.tr) := hc 0 _ (by rw [hl0]; rfl)
    have h1 := laid_apart hL c0
    have hW : ∃ arr t fr, W.heap[b]? = some (.cells arr t fr) := by
      unfold World.cell? at c0
      simp only at c0
      split at c0
      · rename_i arr t fr e; exact ⟨arr, t, fr, e⟩
      all_goals (first | cases c0 | skip)
    obtain ⟨arr, t0, fr, hW⟩ := hW
    have R : RoHeap Tryz.prog (envR W m a L (some b)) hG W := laid_roE hL rfl (by simp [envR])
    refine repoNone_any (η := envR W m a L (some b)) (hb := true) (s := sigR (some b)) (L := L) (envR_x W m a L (some b) hsp) (envR_y W m a L (some b)) (envR_z W m a L (some b)) ?_ rfl rfl hn.1 hn.2 hk.1 hk.2 hho ⟨b, fun k hk => ?_, fun _ w hw => ?_, fun h => (by cases h)⟩ f1 f2 hreads R (ros_some R hW (by simp [envR]) h1)
    · rfl
    · simp only [envR] at hk
      by_cases e : k = 1
      · exact .inl e
      · by_cases e2 : b = k
        · exact .inr e2.symm
        · simp [e, e2] at hk
    · rw [hsp]
      refine reads_of_block hc rfl ?_
      rw [hw]
      simp [envR]
end Go.Proofs.YthkcicilmhpfjaaGreatDoor

