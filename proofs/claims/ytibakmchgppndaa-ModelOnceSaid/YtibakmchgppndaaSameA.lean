/- SameSpans of two lists that are the same. -/
import Derived.Test.YtibakmchgppndaaSpansA
import Derived.Test.YtibakmchgppndaaSame
namespace Go.Proofs.Ytibakmchgppndaa
open Go.RowKit

theorem neq_same (m : Spn) (w : World) : (binOp .neq 37 (aggS m) (aggS m)).run Try.prog w = .ok (.bool false) w := by
  have q := s37
  unfold aggS
  simp [go_sem, q]
set_option maxHeartbeats 4000000 in
set_option maxRecDepth 100000 in
theorem same_refl (w : World) (va vb : Value) (A : List Spn) (ha : ReadsS w va A) (hb : ReadsS w vb A) (hl : A.length ≤ 1000000000) :
    Calls Try.prog 11 #[va, vb] w fun e w' => e = .returned (.bool true) ∧ Kept (fun _ => False) w w' := by
  obtain ⟨ao, ca, rfl, ra⟩ := ha
  obtain ⟨bo, cb, rfl, rb⟩ := hb
  have RA := Lib.hid ra; have RB := Lib.hid rb
  clear ra rb
  obtain ⟨n, hn⟩ : ∃ n, A.length = n := ⟨_, rfl⟩
  rw [hn]
  rw [hn] at hl
  have d0 : ((n : Int) != (n : Int)) = false := by simp
  have HA := Lib.hid hn
  clear hn
  have q0 := s37
  have q1 := g37
  go_enter Try.func11, Try.ntmps11
  go_wp2
  go_loopg [5] n (fun ghv s wr => ∃ (i : Nat), i + ghv = n ∧ s = .int .i64 i ∧ Kept (fun _ => False) w wr)
  case atStart => exact ⟨0, by omega, by go_num, Kept.refl _ _⟩
  case round =>
    obtain ⟨i, hg1, rfl, hk⟩ := hrel
    have G1 := Lib.hid hg1; have KK := Lib.hid hk
    clear hg1 hk
    by_cases hin : i < n
    · have i0 : (i : Int) < (n : Int) := by omega
      have i1 : (0 : Int) ≤ (i : Int) := by omega
      have i2 : (i : Int) ≤ 1000000000 := by omega
      obtain ⟨g1, o1, rfl, hc1⟩ : ∃ g o, ao = some ⟨g, o, none⟩ ∧ ∀ j u, (cellsS A)[j]? = some u → w.cell? ⟨g, o + j, none⟩ = some u := by
        rcases RA.out with h | h
        · have := HA.out; subst h; simp at this; omega
        · exact h
      obtain ⟨g2, o2, rfl, hc2⟩ : ∃ g o, bo = some ⟨g, o, none⟩ ∧ ∀ j u, (cellsS A)[j]? = some u → w.cell? ⟨g, o + j, none⟩ = some u := by
        rcases RB.out with h | h
        · have := HA.out; subst h; simp at this; omega
        · exact h
      obtain ⟨x, hx⟩ : ∃ x, A[i]? = some x := ⟨_, List.getElem?_eq_getElem (by rw [HA.out]; exact hin)⟩
      have rx := ReadsS.at (fun j u hu => KK.out.cell (hc1 j u hu) (fun f => f)) hx
      have ry := ReadsS.at (fun j u hu => KK.out.cell (hc2 j u hu) (fun f => f)) hx
      have q2 := neq_same x
      unfold aggS at q2
      clear hx hc1 hc2
      go_wp2
      refine wp_region_held_drew (S := (fun w' => (w'.cell? ⟨g1, o1 + i * 8, none⟩ = some (.int .i64 x.tr) ∧ w'.cell? ⟨g1, o1 + i * 8 + 1, none⟩ = some (.int .i64 x.id) ∧ w'.cell? ⟨g1, o1 + i * 8 + 2, none⟩ = some (.int .i64 x.pa) ∧ w'.cell? ⟨g1, o1 + i * 8 + 3, none⟩ = some (.string x.se) ∧ w'.cell? ⟨g1, o1 + i * 8 + 4, none⟩ = some (.string x.ho) ∧ w'.cell? ⟨g1, o1 + i * 8 + 5, none⟩ = some (.int .i64 x.st) ∧ w'.cell? ⟨g1, o1 + i * 8 + 6, none⟩ = some (.int .i64 x.du) ∧ w'.cell? ⟨g1, o1 + i * 8 + 7, none⟩ = some (.string x.no)) ∧ (w'.cell? ⟨g2, o2 + i * 8, none⟩ = some (.int .i64 x.tr) ∧ w'.cell? ⟨g2, o2 + i * 8 + 1, none⟩ = some (.int .i64 x.id) ∧ w'.cell? ⟨g2, o2 + i * 8 + 2, none⟩ = some (.int .i64 x.pa) ∧ w'.cell? ⟨g2, o2 + i * 8 + 3, none⟩ = some (.string x.se) ∧ w'.cell? ⟨g2, o2 + i * 8 + 4, none⟩ = some (.string x.ho) ∧ w'.cell? ⟨g2, o2 + i * 8 + 5, none⟩ = some (.int .i64 x.st) ∧ w'.cell? ⟨g2, o2 + i * 8 + 6, none⟩ = some (.int .i64 x.du) ∧ w'.cell? ⟨g2, o2 + i * 8 + 7, none⟩ = some (.string x.no)))) (by kernel_rfl) ?_ (fun hHeld => ?_)
      · exact ⟨rx, ry⟩
      refine wpAnyH_take (i := 0) (v := ?_) opAt0 (by kernel_rfl) (by kernel_rfl) (by kernel_rfl) (fun _ _ _ h => h) (Or.inl ⟨by rfl, ?_⟩) hHeld ?_
      case refine_2 => (intro w hSw; (try dsimp only at hSw); go_simp; all_goals (with_reducible rfl))
      (try simp only [Act.put]); (try simp only [List.setIfInBounds_toArray]); (try simp only [List.set_cons_succ]); (try simp only [List.set_cons_zero])
      refine wpAnyH_take (i := 1) (v := ?_) opAt1 (by kernel_rfl) (by kernel_rfl) (by kernel_rfl) (fun _ _ _ h => h) (Or.inl ⟨by rfl, ?_⟩) hHeld ?_
      case refine_2 => (intro w hSw; (try dsimp only at hSw); go_simp; all_goals (with_reducible rfl))
      (try simp only [Act.put]); (try simp only [List.setIfInBounds_toArray]); (try simp only [List.set_cons_succ]); (try simp only [List.set_cons_zero])
      refine wpAnyH_take (i := 2) (v := ?_) opAt2 (by kernel_rfl) (by kernel_rfl) (by kernel_rfl) (fun _ _ _ h => h) (Or.inl ⟨by rfl, ?_⟩) hHeld ?_
      case refine_2 => (intro w hSw; (try dsimp only at hSw); go_simp; all_goals (with_reducible rfl))
      (try simp only [Act.put]); (try simp only [List.setIfInBounds_toArray]); (try simp only [List.set_cons_succ]); (try simp only [List.set_cons_zero])
      refine wpAnyH_take (i := 3) (v := ?_) opAt3 (by kernel_rfl) (by kernel_rfl) (by kernel_rfl) (fun _ _ _ h => h) (Or.inl ⟨by rfl, ?_⟩) hHeld ?_
      case refine_2 => (intro w hSw; (try dsimp only at hSw); obtain ⟨c0, c1, c2, c3, c4, c5, c6, c7⟩ := hSw.1; clear hSw; go_simp; all_goals (with_reducible rfl))
      (try simp only [Act.put]); (try simp only [List.setIfInBounds_toArray]); (try simp only [List.set_cons_succ]); (try simp only [List.set_cons_zero])
      refine wpAnyH_take (i := 4) (v := ?_) opAt4 (by kernel_rfl) (by kernel_rfl) (by kernel_rfl) (fun _ _ _ h => h) (Or.inl ⟨by rfl, ?_⟩) hHeld ?_
      case refine_2 => (intro w hSw; (try dsimp only at hSw); go_simp; all_goals (with_reducible rfl))
      (try simp only [Act.put]); (try simp only [List.setIfInBounds_toArray]); (try simp only [List.set_cons_succ]); (try simp only [List.set_cons_zero])
      refine wpAnyH_take (i := 5) (v := ?_) opAt5 (by kernel_rfl) (by kernel_rfl) (by kernel_rfl) (fun _ _ _ h => h) (Or.inl ⟨by rfl, ?_⟩) hHeld ?_
      case refine_2 => (intro w hSw; (try dsimp only at hSw); go_simp; all_goals (with_reducible rfl))
      (try simp only [Act.put]); (try simp only [List.setIfInBounds_toArray]); (try simp only [List.set_cons_succ]); (try simp only [List.set_cons_zero])
      refine wpAnyH_take (i := 6) (v := ?_) opAt6 (by kernel_rfl) (by kernel_rfl) (by kernel_rfl) (fun _ _ _ h => h) (Or.inl ⟨by rfl, ?_⟩) hHeld ?_
      case refine_2 => (intro w hSw; (try dsimp only at hSw); go_simp; all_goals (with_reducible rfl))
      (try simp only [Act.put]); (try simp only [List.setIfInBounds_toArray]); (try simp only [List.set_cons_succ]); (try simp only [List.set_cons_zero])
      refine wpAnyH_take (i := 7) (v := ?_) opAt7 (by kernel_rfl) (by kernel_rfl) (by kernel_rfl) (fun _ _ _ h => h) (Or.inl ⟨by rfl, ?_⟩) hHeld ?_
      case refine_2 => (intro w hSw; (try dsimp only at hSw); obtain ⟨c0, c1, c2, c3, c4, c5, c6, c7⟩ := hSw.2; clear hSw; go_simp; all_goals (with_reducible rfl))
      (try simp only [Act.put]); (try simp only [List.setIfInBounds_toArray]); (try simp only [List.set_cons_succ]); (try simp only [List.set_cons_zero])
      refine wpAnyH_take (i := 8) (v := ?_) opAt8 (by kernel_rfl) (by kernel_rfl) (by kernel_rfl) (fun _ _ _ h => h) (Or.inl ⟨by rfl, ?_⟩) hHeld ?_
      case refine_2 => (intro w hSw; (try dsimp only at hSw); go_simp; all_goals (with_reducible rfl))
      (try simp only [Act.put]); (try simp only [List.setIfInBounds_toArray]); (try simp only [List.set_cons_succ]); (try simp only [List.set_cons_zero])
      refine wpAnyH_done (by kernel_rfl) ?_ _
      go_wp2
      go_roundg (n - (i + 1))
      case measure => have := G1.out; omega
      case rel => exact ⟨i + 1, by omega, by go_num, KK.out.drew⟩
    · have i0 : ¬ (i : Int) < (n : Int) := by omega
      go_wp2
      go_ret
      exact ⟨rfl, KK.out⟩
end Go.Proofs.Ytibakmchgppndaa
