/- spoorref14.counted. -/
import Derived.Test.YtjidldbolbjdpaaRefA
namespace Go.Proofs.Ytjidldbolbjdpaa
open Go.RowKit

theorem wpAnyH_gen {P : Program} {md : Region.Mode} {ops : Array Oper} {Q : Exit → Act → World → Prop} {S : World → Prop} {fuel : Nat} {listed : Array Bool} {a : Act} {w : World} (R : World → Prop) (h0 : R w) (h : ∀ V, R V → wpAnyH P md ops Q S fuel listed a V) : wpAnyH P md ops Q S fuel listed a w := h w h0
set_option maxHeartbeats 8000000 in
set_option maxRecDepth 100000 in
theorem counted_any (w : World) (v : Value) (L : List Spn) (h : ReadsS w v L) (hl : L.length ≤ 1000) :
    Calls Try.prog 25 #[v] w fun e w' => ∃ v', e = .returned v' ∧ ReadsS w' v' (cntF L) ∧ Kept (fun _ => False) w w' := by
  obtain ⟨ao2, capL, rfl, rdL⟩ := h
  obtain ⟨m, hm⟩ : ∃ m, L.length = m := ⟨_, rfl⟩
  rw [hm] at hl ⊢
  have HM := Lib.hid hm; have RDL := Lib.hid rdL
  clear hm rdL
  obtain ⟨i24, hi24, z24, s24, b24⟩ := info_parts inf24
  obtain ⟨b0, hb0⟩ : ∃ b, w.heap.size = b := ⟨_, rfl⟩
  have HB0 := Lib.hid hb0
  clear hb0
  go_enter Try.func25, Try.ntmps25
  go_wp2
  go_loopg [3, 4] m (fun ghv s3 s4 wr => ∃ (i : Nat) (la : Option Addr) (cap n : Nat), i + ghv = m ∧ s4 = .int .i64 i ∧ s3 = .slice la n cap ∧ (cntN L i).length = n ∧ wr.ownsRow b0 24 8 (.slice la n cap) n (cellsS (cntN L i)) ∧ Kept (fun _ => False) w wr)
  case atStart => exact ⟨0, none, 0, 0, by omega, by go_num, rfl, rfl, own_nil _ _ _ _, Kept.refl _ _⟩
  case round =>
    obtain ⟨i, la, cap, n, hg1, rfl, rfl, hnl, hrow, hk⟩ := hrel
    have G1 := Lib.hid hg1; have HNLr := Lib.hid hnl; have ROWr := Lib.hid hrow; have KKr := Lib.hid hk
    clear hg1 hnl hrow hk
    by_cases him : i < m
    · have i0 : (i : Int) < (m : Int) := by omega
      have i1 : (0 : Int) ≤ (i : Int) := by omega
      have e1 : IntKind.i64.wrap ((i : Int) + 1) = ((i + 1 : Nat) : Int) := IntWalk.i64_in _ (by omega)
      obtain ⟨R, hR⟩ : ∃ R, cntN L i = R := ⟨_, rfl⟩
      have HNL := Lib.hid (show R.length = n from by rw [← hR]; exact HNLr.out)
      have HR := Lib.hid hR
      have hn1 : n ≤ 1000 := by have h1 := HNLr.out; have h2 := cntN_len L i; omega
      obtain ⟨g2, o2, rfl, hcs⟩ : ∃ g o, ao2 = some ⟨g, o, none⟩ ∧ ∀ j u, (cellsS L)[j]? = some u → w.cell? ⟨g, o + j, none⟩ = some u := by
        rcases RDL.out with h | h
        · have := HM.out; subst h; simp at this; omega
        · exact h
      obtain ⟨y, hy⟩ : ∃ y, nth L i = y := ⟨_, rfl⟩
      have gy := nth_get (l := L) (k := i) (by rw [HM.out]; exact him)
      rw [hy] at gy
      have RY := Lib.hid (ReadsS.range hcs gy)
      have CS := Lib.hid (ReadsS.at hcs gy).2.1
      have HY := Lib.hid hy
      have ROW1 := Lib.hid (show _ from hR ▸ ROWr.out)
      clear hR hcs gy hy
      go_wp2
      go_loopg [5] n (fun ghv2 s5 wr2 => ∃ (k : Nat), k + ghv2 = n ∧ s5 = .int .i64 k ∧ (∀ t, t < k → (nth R t).id < y.id) ∧ wr2.ownsRow b0 24 8 (.slice la n cap) n (cellsS R) ∧ Kept (fun _ => False) w wr2)
      case atStart => exact ⟨0, by omega, by go_num, fun t h => by omega, ROW1.out, KKr.out⟩
      case round =>
        obtain ⟨k, hg2, rfl, hlow, hrow2, hk2⟩ := hrel
        have G2 := Lib.hid hg2; have LOW := Lib.hid hlow; have ROW := Lib.hid hrow2; have KK := Lib.hid hk2
        clear hg2 hlow hrow2 hk2
        have B0 := Lib.hid (show b0 ≤ wr.heap.size from by have h1 := HB0.out; have h2 := KK.out.size; omega)
        have cs := KK.out.cell CS.out (fun f => f)
        have ry := fun j u (hu : y.cells[j]? = some u) => KK.out.cell (RY.out j u hu) (fun f => f)
        by_cases hkn : k < n
        · have k0 : (k : Int) < (n : Int) := by omega
          have k1 : (0 : Int) ≤ (k : Int) := by omega
          have d0 : decide ((k : Int) < (n : Int)) = true := by simp [hkn]
          have d1 : ((k : Int) == (n : Int)) = false := by simp; omega
          have e2 : IntKind.i64.wrap ((k : Int) + 1) = ((k + 1 : Nat) : Int) := IntWalk.i64_in _ (by omega)
          obtain ⟨g, rfl, hc⟩ : ∃ g, la = some ⟨g, 0, none⟩ ∧ ∀ j u, (cellsS R)[j]? = some u → wr.cell? ⟨g, j, none⟩ = some u := by
            rcases row_form ROW.out with ⟨_, q2⟩ | ⟨g, c, q1, _, _, _, hc⟩
            · omega
            · cases q1; exact ⟨g, rfl, hc⟩
          obtain ⟨x, hx⟩ : ∃ x, nth R k = x := ⟨_, rfl⟩
          have gx := nth_get (l := R) (k := k) (by rw [HNL.out]; exact hkn)
          rw [hx] at gx
          have cl := (ReadsS.at (o := 0) (w := wr) (g := g) (fun j u hu => by rw [Nat.zero_add]; exact hc j u hu) gx).2.1
          rw [Nat.zero_add] at cl
          have HX := Lib.hid hx
          clear hx gx hc
          by_cases hlt : x.id < y.id
          · have d2 : decide (x.id < y.id) = true := by simp [hlt]
            go_wp2
            refine wp_region_held_drew (S := (fun w' => w'.cell? ⟨g, k * 8 + 1, none⟩ = some (.int .i64 x.id) ∧ w'.cell? ⟨g2, o2 + i * 8 + 1, none⟩ = some (.int .i64 y.id))) (by kernel_rfl) ?_ (fun hHeld => ?_)
            · exact ⟨cl, cs⟩
            refine wpAnyH_take (i := 0) (v := ?_) opAt0 (by kernel_rfl) (by kernel_rfl) (by kernel_rfl) (fun _ _ _ h => h) (Or.inl ⟨by rfl, ?_⟩) hHeld ?_
            case refine_2 => (intro w hSw; (try dsimp only at hSw); go_simp; all_goals (with_reducible rfl))
            (try simp only [Act.put]); (try simp only [List.setIfInBounds_toArray]); (try simp only [List.set_cons_succ]); (try simp only [List.set_cons_zero])
            refine wpAnyH_take (i := 1) (v := ?_) opAt1 (by kernel_rfl) (by kernel_rfl) (by kernel_rfl) (fun _ _ _ h => h) (Or.inl ⟨by rfl, ?_⟩) hHeld ?_
            case refine_2 => (intro w hSw; (try dsimp only at hSw); go_simp; all_goals (with_reducible rfl))
            (try simp only [Act.put]); (try simp only [List.setIfInBounds_toArray]); (try simp only [List.set_cons_succ]); (try simp only [List.set_cons_zero])
            refine wpAnyH_take (i := 2) (v := ?_) opAt2 (by kernel_rfl) (by kernel_rfl) (by kernel_rfl) (fun _ _ _ h => h) (Or.inl ⟨by rfl, ?_⟩) hHeld ?_
            case refine_2 => (intro w hSw; (try dsimp only at hSw); go_simp; all_goals (with_reducible rfl))
            (try simp only [Act.put]); (try simp only [List.setIfInBounds_toArray]); (try simp only [List.set_cons_succ]); (try simp only [List.set_cons_zero])
            refine wpAnyH_take (i := 3) (v := ?_) opAt3 (by kernel_rfl) (by kernel_rfl) (by kernel_rfl) (fun _ _ _ h => h) (Or.inl ⟨by rfl, ?_⟩) hHeld ?_
            case refine_2 => (intro w hSw; (try dsimp only at hSw); go_simp; all_goals (with_reducible rfl))
            (try simp only [Act.put]); (try simp only [List.setIfInBounds_toArray]); (try simp only [List.set_cons_succ]); (try simp only [List.set_cons_zero])
            refine wpAnyH_take (i := 4) (v := ?_) opAt4 (by kernel_rfl) (by kernel_rfl) (by kernel_rfl) (fun _ _ _ h => h) (Or.inl ⟨by rfl, ?_⟩) hHeld ?_
            case refine_2 => (intro w hSw; (try dsimp only at hSw); go_simp; all_goals (with_reducible rfl))
            (try simp only [Act.put]); (try simp only [List.setIfInBounds_toArray]); (try simp only [List.set_cons_succ]); (try simp only [List.set_cons_zero])
            refine wpAnyH_take (i := 5) (v := ?_) opAt5 (by kernel_rfl) (by kernel_rfl) (by kernel_rfl) (fun _ _ _ h => h) (Or.inl ⟨by rfl, ?_⟩) hHeld ?_
            case refine_2 => (intro w hSw; (try dsimp only at hSw); go_simp; all_goals (with_reducible rfl))
            (try simp only [Act.put]); (try simp only [List.setIfInBounds_toArray]); (try simp only [List.set_cons_succ]); (try simp only [List.set_cons_zero])
            refine wpAnyH_take (i := 6) (v := ?_) opAt6 (by kernel_rfl) (by kernel_rfl) (by kernel_rfl) (fun _ _ _ h => h) (Or.inl ⟨by rfl, ?_⟩) hHeld ?_
            case refine_2 => (intro w hSw; (try dsimp only at hSw); go_simp; all_goals (with_reducible rfl))
            (try simp only [Act.put]); (try simp only [List.setIfInBounds_toArray]); (try simp only [List.set_cons_succ]); (try simp only [List.set_cons_zero])
            refine wpAnyH_take (i := 7) (v := ?_) opAt7 (by kernel_rfl) (by kernel_rfl) (by kernel_rfl) (fun _ _ _ h => h) (Or.inl ⟨by rfl, ?_⟩) hHeld ?_
            case refine_2 => (intro w hSw; (try dsimp only at hSw); go_simp; all_goals (with_reducible rfl))
            (try simp only [Act.put]); (try simp only [List.setIfInBounds_toArray]); (try simp only [List.set_cons_succ]); (try simp only [List.set_cons_zero])
            refine wpAnyH_take (i := 8) (v := ?_) opAt8 (by kernel_rfl) (by kernel_rfl) (by kernel_rfl) (fun _ _ _ h => h) (Or.inl ⟨by rfl, ?_⟩) hHeld ?_
            case refine_2 => (intro w hSw; (try dsimp only at hSw); go_simp; all_goals (with_reducible rfl))
            (try simp only [Act.put]); (try simp only [List.setIfInBounds_toArray]); (try simp only [List.set_cons_succ]); (try simp only [List.set_cons_zero])
            refine wpAnyH_take (i := 9) (v := ?_) opAt9 (by kernel_rfl) (by kernel_rfl) (by kernel_rfl) (fun _ _ _ h => h) (Or.inl ⟨by rfl, ?_⟩) hHeld ?_
            case refine_2 => (intro w hSw; (try dsimp only at hSw); go_simp; all_goals (with_reducible rfl))
            (try simp only [Act.put]); (try simp only [List.setIfInBounds_toArray]); (try simp only [List.set_cons_succ]); (try simp only [List.set_cons_zero])
            refine wpAnyH_take (i := 10) (v := ?_) opAt10 (by kernel_rfl) (by kernel_rfl) (by kernel_rfl) (fun _ _ _ h => h) (Or.inl ⟨by rfl, ?_⟩) hHeld ?_
            case refine_2 => (intro w hSw; (try dsimp only at hSw); go_simp; all_goals (with_reducible rfl))
            (try simp only [Act.put]); (try simp only [List.setIfInBounds_toArray]); (try simp only [List.set_cons_succ]); (try simp only [List.set_cons_zero])
            refine wpAnyH_take (i := 11) (v := ?_) opAt11 (by kernel_rfl) (by kernel_rfl) (by kernel_rfl) (fun _ _ _ h => h) (Or.inl ⟨by rfl, ?_⟩) hHeld ?_
            case refine_2 => (intro w hSw; (try dsimp only at hSw); go_simp; all_goals (with_reducible rfl))
            (try simp only [Act.put]); (try simp only [List.setIfInBounds_toArray]); (try simp only [List.set_cons_succ]); (try simp only [List.set_cons_zero])
            refine wpAnyH_take (i := 12) (v := ?_) opAt12 (by kernel_rfl) (by kernel_rfl) (by kernel_rfl) (fun _ _ _ h => h) (Or.inl ⟨by rfl, ?_⟩) hHeld ?_
            case refine_2 => (intro w hSw; (try dsimp only at hSw); go_simp; all_goals (with_reducible rfl))
            (try simp only [Act.put]); (try simp only [List.setIfInBounds_toArray]); (try simp only [List.set_cons_succ]); (try simp only [List.set_cons_zero])
            refine wpAnyH_take (i := 13) (v := ?_) opAt13 (by kernel_rfl) (by kernel_rfl) (by kernel_rfl) (fun _ _ _ h => h) (Or.inl ⟨by rfl, ?_⟩) hHeld ?_
            case refine_2 => (intro w hSw; (try dsimp only at hSw); go_simp; all_goals (with_reducible rfl))
            (try simp only [Act.put]); (try simp only [List.setIfInBounds_toArray]); (try simp only [List.set_cons_succ]); (try simp only [List.set_cons_zero])
            refine wpAnyH_take (i := 14) (v := ?_) opAt14 (by kernel_rfl) (by kernel_rfl) (by kernel_rfl) (fun _ _ _ h => h) (Or.inl ⟨by rfl, ?_⟩) hHeld ?_
            case refine_2 => (intro w hSw; (try dsimp only at hSw); go_simp; all_goals (with_reducible rfl))
            (try simp only [Act.put]); (try simp only [List.setIfInBounds_toArray]); (try simp only [List.set_cons_succ]); (try simp only [List.set_cons_zero])
            refine wpAnyH_take (i := 15) (v := ?_) opAt15 (by kernel_rfl) (by kernel_rfl) (by kernel_rfl) (fun _ _ _ h => h) (Or.inl ⟨by rfl, ?_⟩) hHeld ?_
            case refine_2 => (intro w hSw; (try dsimp only at hSw); go_simp; all_goals (with_reducible rfl))
            (try simp only [Act.put]); (try simp only [List.setIfInBounds_toArray]); (try simp only [List.set_cons_succ]); (try simp only [List.set_cons_zero])
            refine wpAnyH_take (i := 16) (v := ?_) opAt16 (by kernel_rfl) (by kernel_rfl) (by kernel_rfl) (fun _ _ _ h => h) (Or.inl ⟨by rfl, ?_⟩) hHeld ?_
            case refine_2 => (intro w hSw; (try dsimp only at hSw); go_simp; all_goals (with_reducible rfl))
            (try simp only [Act.put]); (try simp only [List.setIfInBounds_toArray]); (try simp only [List.set_cons_succ]); (try simp only [List.set_cons_zero])
            refine wpAnyH_done (by kernel_rfl) ?_ _
            go_wp2
            go_roundg (n - (k + 1))
            case measure => have := G2.out; omega
            case rel => exact ⟨k + 1, by omega, by go_num, fun t ht => by
              by_cases c : t = k
              · subst c; rw [HX.out]; exact hlt
              · exact LOW.out t (by omega), ROW.out.drew, KK.out.drew⟩
          · have d2 : decide (x.id < y.id) = false := by simp; omega
            go_wp2
            refine wp_region_held_drew (S := (fun w' => w'.cell? ⟨g, k * 8 + 1, none⟩ = some (.int .i64 x.id) ∧ w'.cell? ⟨g2, o2 + i * 8 + 1, none⟩ = some (.int .i64 y.id))) (by kernel_rfl) ?_ (fun hHeld => ?_)
            · exact ⟨cl, cs⟩
            refine wpAnyH_take (i := 0) (v := ?_) opAt0 (by kernel_rfl) (by kernel_rfl) (by kernel_rfl) (fun _ _ _ h => h) (Or.inl ⟨by rfl, ?_⟩) hHeld ?_
            case refine_2 => (intro w hSw; (try dsimp only at hSw); go_simp; all_goals (with_reducible rfl))
            (try simp only [Act.put]); (try simp only [List.setIfInBounds_toArray]); (try simp only [List.set_cons_succ]); (try simp only [List.set_cons_zero])
            refine wpAnyH_take (i := 1) (v := ?_) opAt1 (by kernel_rfl) (by kernel_rfl) (by kernel_rfl) (fun _ _ _ h => h) (Or.inl ⟨by rfl, ?_⟩) hHeld ?_
            case refine_2 => (intro w hSw; (try dsimp only at hSw); go_simp; all_goals (with_reducible rfl))
            (try simp only [Act.put]); (try simp only [List.setIfInBounds_toArray]); (try simp only [List.set_cons_succ]); (try simp only [List.set_cons_zero])
            refine wpAnyH_take (i := 2) (v := ?_) opAt2 (by kernel_rfl) (by kernel_rfl) (by kernel_rfl) (fun _ _ _ h => h) (Or.inl ⟨by rfl, ?_⟩) hHeld ?_
            case refine_2 => (intro w hSw; (try dsimp only at hSw); go_simp; all_goals (with_reducible rfl))
            (try simp only [Act.put]); (try simp only [List.setIfInBounds_toArray]); (try simp only [List.set_cons_succ]); (try simp only [List.set_cons_zero])
            refine wpAnyH_take (i := 3) (v := ?_) opAt3 (by kernel_rfl) (by kernel_rfl) (by kernel_rfl) (fun _ _ _ h => h) (Or.inl ⟨by rfl, ?_⟩) hHeld ?_
            case refine_2 => (intro w hSw; (try dsimp only at hSw); go_simp; all_goals (with_reducible rfl))
            (try simp only [Act.put]); (try simp only [List.setIfInBounds_toArray]); (try simp only [List.set_cons_succ]); (try simp only [List.set_cons_zero])
            refine wpAnyH_take (i := 4) (v := ?_) opAt4 (by kernel_rfl) (by kernel_rfl) (by kernel_rfl) (fun _ _ _ h => h) (Or.inl ⟨by rfl, ?_⟩) hHeld ?_
            case refine_2 => (intro w hSw; (try dsimp only at hSw); go_simp; all_goals (with_reducible rfl))
            (try simp only [Act.put]); (try simp only [List.setIfInBounds_toArray]); (try simp only [List.set_cons_succ]); (try simp only [List.set_cons_zero])
            refine wpAnyH_take (i := 5) (v := ?_) opAt5 (by kernel_rfl) (by kernel_rfl) (by kernel_rfl) (fun _ _ _ h => h) (Or.inl ⟨by rfl, ?_⟩) hHeld ?_
            case refine_2 => (intro w hSw; (try dsimp only at hSw); go_simp; all_goals (with_reducible rfl))
            (try simp only [Act.put]); (try simp only [List.setIfInBounds_toArray]); (try simp only [List.set_cons_succ]); (try simp only [List.set_cons_zero])
            refine wpAnyH_take (i := 6) (v := ?_) opAt6 (by kernel_rfl) (by kernel_rfl) (by kernel_rfl) (fun _ _ _ h => h) (Or.inl ⟨by rfl, ?_⟩) hHeld ?_
            case refine_2 => (intro w hSw; (try dsimp only at hSw); go_simp; all_goals (with_reducible rfl))
            (try simp only [Act.put]); (try simp only [List.setIfInBounds_toArray]); (try simp only [List.set_cons_succ]); (try simp only [List.set_cons_zero])
            refine wpAnyH_take (i := 7) (v := ?_) opAt7 (by kernel_rfl) (by kernel_rfl) (by kernel_rfl) (fun _ _ _ h => h) (Or.inl ⟨by rfl, ?_⟩) hHeld ?_
            case refine_2 => (intro w hSw; (try dsimp only at hSw); go_simp; all_goals (with_reducible rfl))
            (try simp only [Act.put]); (try simp only [List.setIfInBounds_toArray]); (try simp only [List.set_cons_succ]); (try simp only [List.set_cons_zero])
            refine wpAnyH_take (i := 8) (v := ?_) opAt8 (by kernel_rfl) (by kernel_rfl) (by kernel_rfl) (fun _ _ _ h => h) (Or.inl ⟨by rfl, ?_⟩) hHeld ?_
            case refine_2 => (intro w hSw; (try dsimp only at hSw); go_simp; all_goals (with_reducible rfl))
            (try simp only [Act.put]); (try simp only [List.setIfInBounds_toArray]); (try simp only [List.set_cons_succ]); (try simp only [List.set_cons_zero])
            refine wpAnyH_take (i := 9) (v := ?_) opAt9 (by kernel_rfl) (by kernel_rfl) (by kernel_rfl) (fun _ _ _ h => h) (Or.inl ⟨by rfl, ?_⟩) hHeld ?_
            case refine_2 => (intro w hSw; (try dsimp only at hSw); go_simp; all_goals (with_reducible rfl))
            (try simp only [Act.put]); (try simp only [List.setIfInBounds_toArray]); (try simp only [List.set_cons_succ]); (try simp only [List.set_cons_zero])
            refine wpAnyH_take (i := 10) (v := ?_) opAt10 (by kernel_rfl) (by kernel_rfl) (by kernel_rfl) (fun _ _ _ h => h) (Or.inl ⟨by rfl, ?_⟩) hHeld ?_
            case refine_2 => (intro w hSw; (try dsimp only at hSw); go_simp; all_goals (with_reducible rfl))
            (try simp only [Act.put]); (try simp only [List.setIfInBounds_toArray]); (try simp only [List.set_cons_succ]); (try simp only [List.set_cons_zero])
            refine wpAnyH_take (i := 11) (v := ?_) opAt11 (by kernel_rfl) (by kernel_rfl) (by kernel_rfl) (fun _ _ _ h => h) (Or.inl ⟨by rfl, ?_⟩) hHeld ?_
            case refine_2 => (intro w hSw; (try dsimp only at hSw); go_simp; all_goals (with_reducible rfl))
            (try simp only [Act.put]); (try simp only [List.setIfInBounds_toArray]); (try simp only [List.set_cons_succ]); (try simp only [List.set_cons_zero])
            refine wpAnyH_take (i := 12) (v := ?_) opAt12 (by kernel_rfl) (by kernel_rfl) (by kernel_rfl) (fun _ _ _ h => h) (Or.inl ⟨by rfl, ?_⟩) hHeld ?_
            case refine_2 => (intro w hSw; (try dsimp only at hSw); go_simp; all_goals (with_reducible rfl))
            (try simp only [Act.put]); (try simp only [List.setIfInBounds_toArray]); (try simp only [List.set_cons_succ]); (try simp only [List.set_cons_zero])
            refine wpAnyH_take (i := 13) (v := ?_) opAt13 (by kernel_rfl) (by kernel_rfl) (by kernel_rfl) (fun _ _ _ h => h) (Or.inl ⟨by rfl, ?_⟩) hHeld ?_
            case refine_2 => (intro w hSw; (try dsimp only at hSw); go_simp; all_goals (with_reducible rfl))
            (try simp only [Act.put]); (try simp only [List.setIfInBounds_toArray]); (try simp only [List.set_cons_succ]); (try simp only [List.set_cons_zero])
            refine wpAnyH_take (i := 14) (v := ?_) opAt14 (by kernel_rfl) (by kernel_rfl) (by kernel_rfl) (fun _ _ _ h => h) (Or.inl ⟨by rfl, ?_⟩) hHeld ?_
            case refine_2 => (intro w hSw; (try dsimp only at hSw); go_simp; all_goals (with_reducible rfl))
            (try simp only [Act.put]); (try simp only [List.setIfInBounds_toArray]); (try simp only [List.set_cons_succ]); (try simp only [List.set_cons_zero])
            refine wpAnyH_take (i := 15) (v := ?_) opAt15 (by kernel_rfl) (by kernel_rfl) (by kernel_rfl) (fun _ _ _ h => h) (Or.inl ⟨by rfl, ?_⟩) hHeld ?_
            case refine_2 => (intro w hSw; (try dsimp only at hSw); go_simp; all_goals (with_reducible rfl))
            (try simp only [Act.put]); (try simp only [List.setIfInBounds_toArray]); (try simp only [List.set_cons_succ]); (try simp only [List.set_cons_zero])
            refine wpAnyH_take (i := 16) (v := ?_) opAt16 (by kernel_rfl) (by kernel_rfl) (by kernel_rfl) (fun _ _ _ h => h) (Or.inl ⟨by rfl, ?_⟩) hHeld ?_
            case refine_2 => (intro w hSw; (try dsimp only at hSw); go_simp; all_goals (with_reducible rfl))
            (try simp only [Act.put]); (try simp only [List.setIfInBounds_toArray]); (try simp only [List.set_cons_succ]); (try simp only [List.set_cons_zero])
            refine wpAnyH_done (by kernel_rfl) ?_ _
            go_wp2
            by_cases hid : x.id = y.id
            · have d3 : (x.id != y.id) = false := by simp [hid]
              have EQ := Lib.hid (show cntN L (i + 1) = R from by
                rw [cntN, HR.out, HY.out, insS_at R y k (by rw [HNL.out]; omega) LOW.out (.inr (by rw [HX.out]; omega)), if_neg]
                rintro (h | h)
                · rw [HNL.out] at h; omega
                · rw [HX.out] at h; exact h hid)
              clear hid
              refine wp_region_held_drew (S := (fun w' => w'.cell? ⟨g, k * 8 + 1, none⟩ = some (.int .i64 x.id) ∧ w'.cell? ⟨g2, o2 + i * 8 + 1, none⟩ = some (.int .i64 y.id))) (by kernel_rfl) ?_ (fun hHeld => ?_)
              · exact ⟨cl, cs⟩
              refine wpAnyH_take (i := 0) (v := ?_) opAt0 (by kernel_rfl) (by kernel_rfl) (by kernel_rfl) (fun _ _ _ h => h) (Or.inl ⟨by rfl, ?_⟩) hHeld ?_
              case refine_2 => (intro w hSw; (try dsimp only at hSw); go_simp; all_goals (with_reducible rfl))
              (try simp only [Act.put]); (try simp only [List.setIfInBounds_toArray]); (try simp only [List.set_cons_succ]); (try simp only [List.set_cons_zero])
              refine wpAnyH_take (i := 1) (v := ?_) opAt1 (by kernel_rfl) (by kernel_rfl) (by kernel_rfl) (fun _ _ _ h => h) (Or.inl ⟨by rfl, ?_⟩) hHeld ?_
              case refine_2 => (intro w hSw; (try dsimp only at hSw); go_simp; all_goals (with_reducible rfl))
              (try simp only [Act.put]); (try simp only [List.setIfInBounds_toArray]); (try simp only [List.set_cons_succ]); (try simp only [List.set_cons_zero])
              refine wpAnyH_take (i := 2) (v := ?_) opAt2 (by kernel_rfl) (by kernel_rfl) (by kernel_rfl) (fun _ _ _ h => h) (Or.inl ⟨by rfl, ?_⟩) hHeld ?_
              case refine_2 => (intro w hSw; (try dsimp only at hSw); go_simp; all_goals (with_reducible rfl))
              (try simp only [Act.put]); (try simp only [List.setIfInBounds_toArray]); (try simp only [List.set_cons_succ]); (try simp only [List.set_cons_zero])
              refine wpAnyH_take (i := 3) (v := ?_) opAt3 (by kernel_rfl) (by kernel_rfl) (by kernel_rfl) (fun _ _ _ h => h) (Or.inl ⟨by rfl, ?_⟩) hHeld ?_
              case refine_2 => (intro w hSw; (try dsimp only at hSw); go_simp; all_goals (with_reducible rfl))
              (try simp only [Act.put]); (try simp only [List.setIfInBounds_toArray]); (try simp only [List.set_cons_succ]); (try simp only [List.set_cons_zero])
              refine wpAnyH_take (i := 4) (v := ?_) opAt4 (by kernel_rfl) (by kernel_rfl) (by kernel_rfl) (fun _ _ _ h => h) (Or.inl ⟨by rfl, ?_⟩) hHeld ?_
              case refine_2 => (intro w hSw; (try dsimp only at hSw); go_simp; all_goals (with_reducible rfl))
              (try simp only [Act.put]); (try simp only [List.setIfInBounds_toArray]); (try simp only [List.set_cons_succ]); (try simp only [List.set_cons_zero])
              refine wpAnyH_take (i := 5) (v := ?_) opAt5 (by kernel_rfl) (by kernel_rfl) (by kernel_rfl) (fun _ _ _ h => h) (Or.inl ⟨by rfl, ?_⟩) hHeld ?_
              case refine_2 => (intro w hSw; (try dsimp only at hSw); go_simp; all_goals (with_reducible rfl))
              (try simp only [Act.put]); (try simp only [List.setIfInBounds_toArray]); (try simp only [List.set_cons_succ]); (try simp only [List.set_cons_zero])
              refine wpAnyH_take (i := 6) (v := ?_) opAt6 (by kernel_rfl) (by kernel_rfl) (by kernel_rfl) (fun _ _ _ h => h) (Or.inl ⟨by rfl, ?_⟩) hHeld ?_
              case refine_2 => (intro w hSw; (try dsimp only at hSw); go_simp; all_goals (with_reducible rfl))
              (try simp only [Act.put]); (try simp only [List.setIfInBounds_toArray]); (try simp only [List.set_cons_succ]); (try simp only [List.set_cons_zero])
              refine wpAnyH_take (i := 7) (v := ?_) opAt7 (by kernel_rfl) (by kernel_rfl) (by kernel_rfl) (fun _ _ _ h => h) (Or.inl ⟨by rfl, ?_⟩) hHeld ?_
              case refine_2 => (intro w hSw; (try dsimp only at hSw); go_simp; all_goals (with_reducible rfl))
              (try simp only [Act.put]); (try simp only [List.setIfInBounds_toArray]); (try simp only [List.set_cons_succ]); (try simp only [List.set_cons_zero])
              refine wpAnyH_take (i := 8) (v := ?_) opAt8 (by kernel_rfl) (by kernel_rfl) (by kernel_rfl) (fun _ _ _ h => h) (Or.inl ⟨by rfl, ?_⟩) hHeld ?_
              case refine_2 => (intro w hSw; (try dsimp only at hSw); go_simp; all_goals (with_reducible rfl))
              (try simp only [Act.put]); (try simp only [List.setIfInBounds_toArray]); (try simp only [List.set_cons_succ]); (try simp only [List.set_cons_zero])
              refine wpAnyH_take (i := 9) (v := ?_) opAt9 (by kernel_rfl) (by kernel_rfl) (by kernel_rfl) (fun _ _ _ h => h) (Or.inl ⟨by rfl, ?_⟩) hHeld ?_
              case refine_2 => (intro w hSw; (try dsimp only at hSw); go_simp; all_goals (with_reducible rfl))
              (try simp only [Act.put]); (try simp only [List.setIfInBounds_toArray]); (try simp only [List.set_cons_succ]); (try simp only [List.set_cons_zero])
              refine wpAnyH_take (i := 10) (v := ?_) opAt10 (by kernel_rfl) (by kernel_rfl) (by kernel_rfl) (fun _ _ _ h => h) (Or.inl ⟨by rfl, ?_⟩) hHeld ?_
              case refine_2 => (intro w hSw; (try dsimp only at hSw); go_simp; all_goals (with_reducible rfl))
              (try simp only [Act.put]); (try simp only [List.setIfInBounds_toArray]); (try simp only [List.set_cons_succ]); (try simp only [List.set_cons_zero])
              refine wpAnyH_take (i := 11) (v := ?_) opAt11 (by kernel_rfl) (by kernel_rfl) (by kernel_rfl) (fun _ _ _ h => h) (Or.inl ⟨by rfl, ?_⟩) hHeld ?_
              case refine_2 => (intro w hSw; (try dsimp only at hSw); go_simp; all_goals (with_reducible rfl))
              (try simp only [Act.put]); (try simp only [List.setIfInBounds_toArray]); (try simp only [List.set_cons_succ]); (try simp only [List.set_cons_zero])
              refine wpAnyH_take (i := 12) (v := ?_) opAt12 (by kernel_rfl) (by kernel_rfl) (by kernel_rfl) (fun _ _ _ h => h) (Or.inl ⟨by rfl, ?_⟩) hHeld ?_
              case refine_2 => (intro w hSw; (try dsimp only at hSw); go_simp; all_goals (with_reducible rfl))
              (try simp only [Act.put]); (try simp only [List.setIfInBounds_toArray]); (try simp only [List.set_cons_succ]); (try simp only [List.set_cons_zero])
              refine wpAnyH_take (i := 13) (v := ?_) opAt13 (by kernel_rfl) (by kernel_rfl) (by kernel_rfl) (fun _ _ _ h => h) (Or.inl ⟨by rfl, ?_⟩) hHeld ?_
              case refine_2 => (intro w hSw; (try dsimp only at hSw); go_simp; all_goals (with_reducible rfl))
              (try simp only [Act.put]); (try simp only [List.setIfInBounds_toArray]); (try simp only [List.set_cons_succ]); (try simp only [List.set_cons_zero])
              refine wpAnyH_take (i := 14) (v := ?_) opAt14 (by kernel_rfl) (by kernel_rfl) (by kernel_rfl) (fun _ _ _ h => h) (Or.inl ⟨by rfl, ?_⟩) hHeld ?_
              case refine_2 => (intro w hSw; (try dsimp only at hSw); go_simp; all_goals (with_reducible rfl))
              (try simp only [Act.put]); (try simp only [List.setIfInBounds_toArray]); (try simp only [List.set_cons_succ]); (try simp only [List.set_cons_zero])
              refine wpAnyH_take (i := 15) (v := ?_) opAt15 (by kernel_rfl) (by kernel_rfl) (by kernel_rfl) (fun _ _ _ h => h) (Or.inl ⟨by rfl, ?_⟩) hHeld ?_
              case refine_2 => (intro w hSw; (try dsimp only at hSw); go_simp; all_goals (with_reducible rfl))
              (try simp only [Act.put]); (try simp only [List.setIfInBounds_toArray]); (try simp only [List.set_cons_succ]); (try simp only [List.set_cons_zero])
              refine wpAnyH_take (i := 16) (v := ?_) opAt16 (by kernel_rfl) (by kernel_rfl) (by kernel_rfl) (fun _ _ _ h => h) (Or.inl ⟨by rfl, ?_⟩) hHeld ?_
              case refine_2 => (intro w hSw; (try dsimp only at hSw); go_simp; all_goals (with_reducible rfl))
              (try simp only [Act.put]); (try simp only [List.setIfInBounds_toArray]); (try simp only [List.set_cons_succ]); (try simp only [List.set_cons_zero])
              refine wpAnyH_done (by kernel_rfl) ?_ _
              go_wp2
              go_roundg (m - (i + 1))
              case measure => have := G1.out; omega
              case rel => exact ⟨i + 1, _, cap, n, by omega, by go_num, rfl, by rw [EQ.out, HNL.out], by rw [EQ.out]; exact World.ownsRow.drew (World.ownsRow.drew ROW.out), KK.out.drew.drew⟩
            · have d3 : (x.id != y.id) = true := by simp [hid]
              have INS := Lib.hid (show cntN L (i + 1) = R.take k ++ y :: R.drop k from by
                rw [cntN, HR.out, HY.out, insS_at R y k (by rw [HNL.out]; omega) LOW.out (.inr (by rw [HX.out]; omega)), if_pos (.inr (by rw [HX.out]; exact hid))])
              clear hid
              refine wp_region_held_drew (S := (fun w' => w'.cell? ⟨g, k * 8 + 1, none⟩ = some (.int .i64 x.id) ∧ w'.cell? ⟨g2, o2 + i * 8 + 1, none⟩ = some (.int .i64 y.id))) (by kernel_rfl) ?_ (fun hHeld => ?_)
              · exact ⟨cl, cs⟩
              refine wpAnyH_take (i := 0) (v := ?_) opAt0 (by kernel_rfl) (by kernel_rfl) (by kernel_rfl) (fun _ _ _ h => h) (Or.inl ⟨by rfl, ?_⟩) hHeld ?_
              case refine_2 => (intro w hSw; (try dsimp only at hSw); go_simp; all_goals (with_reducible rfl))
              (try simp only [Act.put]); (try simp only [List.setIfInBounds_toArray]); (try simp only [List.set_cons_succ]); (try simp only [List.set_cons_zero])
              refine wpAnyH_take (i := 1) (v := ?_) opAt1 (by kernel_rfl) (by kernel_rfl) (by kernel_rfl) (fun _ _ _ h => h) (Or.inl ⟨by rfl, ?_⟩) hHeld ?_
              case refine_2 => (intro w hSw; (try dsimp only at hSw); go_simp; all_goals (with_reducible rfl))
              (try simp only [Act.put]); (try simp only [List.setIfInBounds_toArray]); (try simp only [List.set_cons_succ]); (try simp only [List.set_cons_zero])
              refine wpAnyH_take (i := 2) (v := ?_) opAt2 (by kernel_rfl) (by kernel_rfl) (by kernel_rfl) (fun _ _ _ h => h) (Or.inl ⟨by rfl, ?_⟩) hHeld ?_
              case refine_2 => (intro w hSw; (try dsimp only at hSw); go_simp; all_goals (with_reducible rfl))
              (try simp only [Act.put]); (try simp only [List.setIfInBounds_toArray]); (try simp only [List.set_cons_succ]); (try simp only [List.set_cons_zero])
              refine wpAnyH_take (i := 3) (v := ?_) opAt3 (by kernel_rfl) (by kernel_rfl) (by kernel_rfl) (fun _ _ _ h => h) (Or.inl ⟨by rfl, ?_⟩) hHeld ?_
              case refine_2 => (intro w hSw; (try dsimp only at hSw); go_simp; all_goals (with_reducible rfl))
              (try simp only [Act.put]); (try simp only [List.setIfInBounds_toArray]); (try simp only [List.set_cons_succ]); (try simp only [List.set_cons_zero])
              refine wpAnyH_take (i := 4) (v := ?_) opAt4 (by kernel_rfl) (by kernel_rfl) (by kernel_rfl) (fun _ _ _ h => h) (Or.inl ⟨by rfl, ?_⟩) hHeld ?_
              case refine_2 => (intro w hSw; (try dsimp only at hSw); go_simp; all_goals (with_reducible rfl))
              (try simp only [Act.put]); (try simp only [List.setIfInBounds_toArray]); (try simp only [List.set_cons_succ]); (try simp only [List.set_cons_zero])
              refine wpAnyH_take (i := 5) (v := ?_) opAt5 (by kernel_rfl) (by kernel_rfl) (by kernel_rfl) (fun _ _ _ h => h) (Or.inl ⟨by rfl, ?_⟩) hHeld ?_
              case refine_2 => (intro w hSw; (try dsimp only at hSw); go_simp; all_goals (with_reducible rfl))
              (try simp only [Act.put]); (try simp only [List.setIfInBounds_toArray]); (try simp only [List.set_cons_succ]); (try simp only [List.set_cons_zero])
              refine wpAnyH_take (i := 6) (v := ?_) opAt6 (by kernel_rfl) (by kernel_rfl) (by kernel_rfl) (fun _ _ _ h => h) (Or.inl ⟨by rfl, ?_⟩) hHeld ?_
              case refine_2 => (intro w hSw; (try dsimp only at hSw); go_simp; all_goals (with_reducible rfl))
              (try simp only [Act.put]); (try simp only [List.setIfInBounds_toArray]); (try simp only [List.set_cons_succ]); (try simp only [List.set_cons_zero])
              refine wpAnyH_take (i := 7) (v := ?_) opAt7 (by kernel_rfl) (by kernel_rfl) (by kernel_rfl) (fun _ _ _ h => h) (Or.inl ⟨by rfl, ?_⟩) hHeld ?_
              case refine_2 => (intro w hSw; (try dsimp only at hSw); go_simp; all_goals (with_reducible rfl))
              (try simp only [Act.put]); (try simp only [List.setIfInBounds_toArray]); (try simp only [List.set_cons_succ]); (try simp only [List.set_cons_zero])
              refine wpAnyH_take (i := 8) (v := ?_) opAt8 (by kernel_rfl) (by kernel_rfl) (by kernel_rfl) (fun _ _ _ h => h) (Or.inl ⟨by rfl, ?_⟩) hHeld ?_
              case refine_2 => (intro w hSw; (try dsimp only at hSw); go_simp; all_goals (with_reducible rfl))
              (try simp only [Act.put]); (try simp only [List.setIfInBounds_toArray]); (try simp only [List.set_cons_succ]); (try simp only [List.set_cons_zero])
              refine wpAnyH_take (i := 9) (v := ?_) opAt9 (by kernel_rfl) (by kernel_rfl) (by kernel_rfl) (fun _ _ _ h => h) (Or.inl ⟨by rfl, ?_⟩) hHeld ?_
              case refine_2 => (intro w hSw; (try dsimp only at hSw); go_simp; all_goals (with_reducible rfl))
              (try simp only [Act.put]); (try simp only [List.setIfInBounds_toArray]); (try simp only [List.set_cons_succ]); (try simp only [List.set_cons_zero])
              refine wpAnyH_take (i := 10) (v := ?_) opAt10 (by kernel_rfl) (by kernel_rfl) (by kernel_rfl) (fun _ _ _ h => h) (Or.inl ⟨by rfl, ?_⟩) hHeld ?_
              case refine_2 => (intro w hSw; (try dsimp only at hSw); go_simp; all_goals (with_reducible rfl))
              (try simp only [Act.put]); (try simp only [List.setIfInBounds_toArray]); (try simp only [List.set_cons_succ]); (try simp only [List.set_cons_zero])
              refine wpAnyH_take (i := 11) (v := ?_) opAt11 (by kernel_rfl) (by kernel_rfl) (by kernel_rfl) (fun _ _ _ h => h) (Or.inl ⟨by rfl, ?_⟩) hHeld ?_
              case refine_2 => (intro w hSw; (try dsimp only at hSw); go_simp; all_goals (with_reducible rfl))
              (try simp only [Act.put]); (try simp only [List.setIfInBounds_toArray]); (try simp only [List.set_cons_succ]); (try simp only [List.set_cons_zero])
              refine wpAnyH_take (i := 12) (v := ?_) opAt12 (by kernel_rfl) (by kernel_rfl) (by kernel_rfl) (fun _ _ _ h => h) (Or.inl ⟨by rfl, ?_⟩) hHeld ?_
              case refine_2 => (intro w hSw; (try dsimp only at hSw); go_simp; all_goals (with_reducible rfl))
              (try simp only [Act.put]); (try simp only [List.setIfInBounds_toArray]); (try simp only [List.set_cons_succ]); (try simp only [List.set_cons_zero])
              refine wpAnyH_take (i := 13) (v := ?_) opAt13 (by kernel_rfl) (by kernel_rfl) (by kernel_rfl) (fun _ _ _ h => h) (Or.inl ⟨by rfl, ?_⟩) hHeld ?_
              case refine_2 => (intro w hSw; (try dsimp only at hSw); go_simp; all_goals (with_reducible rfl))
              (try simp only [Act.put]); (try simp only [List.setIfInBounds_toArray]); (try simp only [List.set_cons_succ]); (try simp only [List.set_cons_zero])
              refine wpAnyH_take (i := 14) (v := ?_) opAt14 (by kernel_rfl) (by kernel_rfl) (by kernel_rfl) (fun _ _ _ h => h) (Or.inl ⟨by rfl, ?_⟩) hHeld ?_
              case refine_2 => (intro w hSw; (try dsimp only at hSw); go_simp; all_goals (with_reducible rfl))
              (try simp only [Act.put]); (try simp only [List.setIfInBounds_toArray]); (try simp only [List.set_cons_succ]); (try simp only [List.set_cons_zero])
              refine wpAnyH_take (i := 15) (v := ?_) opAt15 (by kernel_rfl) (by kernel_rfl) (by kernel_rfl) (fun _ _ _ h => h) (Or.inl ⟨by rfl, ?_⟩) hHeld ?_
              case refine_2 => (intro w hSw; (try dsimp only at hSw); go_simp; all_goals (with_reducible rfl))
              (try simp only [Act.put]); (try simp only [List.setIfInBounds_toArray]); (try simp only [List.set_cons_succ]); (try simp only [List.set_cons_zero])
              refine wpAnyH_take (i := 16) (v := ?_) opAt16 (by kernel_rfl) (by kernel_rfl) (by kernel_rfl) (fun _ _ _ h => h) (Or.inl ⟨by rfl, ?_⟩) hHeld ?_
              case refine_2 => (intro w hSw; (try dsimp only at hSw); go_simp; all_goals (with_reducible rfl))
              (try simp only [Act.put]); (try simp only [List.setIfInBounds_toArray]); (try simp only [List.set_cons_succ]); (try simp only [List.set_cons_zero])
              refine wpAnyH_done (by kernel_rfl) ?_ _
              obtain ⟨X1, X2, rs1, rs2, sr1, sr2⟩ := slices_of ROW.out HNL.out k (by omega)
              have SRC1 := Lib.hid sr1; have SRC2 := Lib.hid sr2
              clear sr1 sr2
              go_wp2
              refine wp_region_held_drew (S := (fun w' => w'.rangeAt g2 (o2 + i * 8) y.cells)) (by kernel_rfl) ?_ (fun hHeld => ?_)
              · exact ry
              refine wpAnyH_take (i := 1) (v := ?_) opAt1 (by kernel_rfl) (by kernel_rfl) (by kernel_rfl) (fun _ _ _ h => h) (Or.inl ⟨by rfl, ?_⟩) hHeld ?_
              case refine_2 => (intro w hSw; (try dsimp only at hSw); go_simp; all_goals (with_reducible rfl))
              (try simp only [Act.put]); (try simp only [List.setIfInBounds_toArray]); (try simp only [List.set_cons_succ]); (try simp only [List.set_cons_zero])
              refine wpAnyH_take (i := 2) (v := ?_) opAt2 (by kernel_rfl) (by kernel_rfl) (by kernel_rfl) (fun _ _ _ h => h) (Or.inl ⟨by rfl, ?_⟩) hHeld ?_
              case refine_2 => (intro w hSw; (try dsimp only at hSw); go_simp; all_goals (with_reducible rfl))
              (try simp only [Act.put]); (try simp only [List.setIfInBounds_toArray]); (try simp only [List.set_cons_succ]); (try simp only [List.set_cons_zero])
              refine wpAnyH_take (i := 3) (v := ?_) opAt3 (by kernel_rfl) (by kernel_rfl) (by kernel_rfl) (fun _ _ _ h => h) (Or.inl ⟨by rfl, ?_⟩) hHeld ?_
              case refine_2 => (intro w hSw; (try dsimp only at hSw); go_simp; all_goals (with_reducible rfl))
              (try simp only [Act.put]); (try simp only [List.setIfInBounds_toArray]); (try simp only [List.set_cons_succ]); (try simp only [List.set_cons_zero])
              refine wpAnyH_take (i := 5) (v := ?_) opAt5 (by kernel_rfl) (by kernel_rfl) (by kernel_rfl) (fun _ _ _ h => h) (Or.inl ⟨by rfl, ?_⟩) hHeld ?_
              case refine_2 => (intro w hSw; (try dsimp only at hSw); go_simp; all_goals (with_reducible rfl))
              (try simp only [Act.put]); (try simp only [List.setIfInBounds_toArray]); (try simp only [List.set_cons_succ]); (try simp only [List.set_cons_zero])
              refine wpAnyH_take (i := 6) (v := ?_) opAt6 (by kernel_rfl) (by kernel_rfl) (by kernel_rfl) (fun _ _ _ h => h) (Or.inl ⟨by rfl, ?_⟩) hHeld ?_
              case refine_2 => (intro w hSw; (try dsimp only at hSw); go_simp; all_goals (with_reducible rfl))
              (try simp only [Act.put]); (try simp only [List.setIfInBounds_toArray]); (try simp only [List.set_cons_succ]); (try simp only [List.set_cons_zero])
              refine wpAnyH_take (i := 7) (v := ?_) opAt7 (by kernel_rfl) (by kernel_rfl) (by kernel_rfl) (fun _ _ _ h => h) (Or.inl ⟨by rfl, ?_⟩) hHeld ?_
              case refine_2 => (intro w hSw; (try dsimp only at hSw); go_simp; all_goals (with_reducible rfl))
              (try simp only [Act.put]); (try simp only [List.setIfInBounds_toArray]); (try simp only [List.set_cons_succ]); (try simp only [List.set_cons_zero])
              refine wpAnyH_take (i := 8) (v := .agg #[.int .i64 y.tr, .int .i64 y.id, .int .i64 y.pa, .string y.se, .string y.ho, .int .i64 y.st, .int .i64 y.du, .string y.no]) opAt8 (by kernel_rfl) (by kernel_rfl) (by kernel_rfl) (fun _ _ _ h => h) (yieldsIf_load_mid (by rfl) 24 _ (by rfl) g2 (o2 + i * 8) (by rfl) y.cells _ (fun w hS => hS) Try.underlying24 rfl info24) hHeld ?_
              (try simp only [Act.put]); (try simp only [List.setIfInBounds_toArray]); (try simp only [List.set_cons_succ]); (try simp only [List.set_cons_zero])
              refine wpAnyH_take (i := 11) (v := ?_) opAt11 (by kernel_rfl) (by kernel_rfl) (by kernel_rfl) (fun _ _ _ h => h) (Or.inl ⟨by rfl, ?_⟩) hHeld ?_
              case refine_2 => (intro w hSw; (try dsimp only at hSw); go_simp; all_goals (with_reducible rfl))
              (try simp only [Act.put]); (try simp only [List.setIfInBounds_toArray]); (try simp only [List.set_cons_succ]); (try simp only [List.set_cons_zero])
              refine wpAnyH_take (i := 12) (v := ?_) opAt12 (by kernel_rfl) (by kernel_rfl) (by kernel_rfl) (fun _ _ _ h => h) (Or.inl ⟨by rfl, ?_⟩) hHeld ?_
              case refine_2 => (intro w hSw; (try dsimp only at hSw); go_simp; all_goals (with_reducible rfl))
              (try simp only [Act.put]); (try simp only [List.setIfInBounds_toArray]); (try simp only [List.set_cons_succ]); (try simp only [List.set_cons_zero])
              refine wpAnyH_take (i := 13) (v := ?_) opAt13 (by kernel_rfl) (by kernel_rfl) (by kernel_rfl) (fun _ _ _ h => h) (Or.inl ⟨by rfl, ?_⟩) hHeld ?_
              case refine_2 => (intro w hSw; (try dsimp only at hSw); go_simp; all_goals (with_reducible rfl))
              (try simp only [Act.put]); (try simp only [List.setIfInBounds_toArray]); (try simp only [List.set_cons_succ]); (try simp only [List.set_cons_zero])
              refine wpAnyH_gen (fun V => Kept (fun _ => False) wr V ∧ V.rangeAt g2 (o2 + i * 8) y.cells) ⟨⟨rfl, rfl, rfl, Nat.le_refl _, fun _ _ _ => rfl⟩, ry⟩ ?_
              rintro V0 ⟨k0', hHeld⟩
              have K0 := Lib.hid k0'
              clear k0'
              refine wpAnyH_ready (rs := [0, 9]) (by kernel_rfl) (by simp) ?_
              refine AllReadyH.cons opAt0 (fun K hK => ?_) ?_
              · go_simp
                have ho := World.ownsRow_made V0 #[] 0 (Nat.le_trans B0.out K0.out.size) (by unfold maxLen; omega) (by rfl) (e := 24) (size := 8) (base := b0)
                have hk := (Kept.refl (fun _ => False) V0).alloc (.cells #[] 24)
                have ge := K0.out.size
                have lt_ : V0.heap.size < (V0.alloc (.cells #[] 24)).heap.size := by simp
                generalize hV : V0.alloc (.cells #[] 24) = V1 at ho hk lt_ ⊢
                generalize he : V0.heap.size = e0 at ho ge lt_ ⊢
                have E := Lib.hid ho
                have EG := Lib.hid ge
                have ELT := Lib.hid lt_
                have K1 := Lib.hid (keptFF K0.out hk)
                clear ho hk ge lt_ hV he
                refine hK.out _ _ ?_ (fun hHeld => ?_)
                · exact fun j u hu => K1.out.cell (ry j u hu) (fun f => f)
                clear hK K
                (try simp only [Act.put]); (try simp only [List.setIfInBounds_toArray]); (try simp only [List.set_cons_succ]); (try simp only [List.set_cons_zero])
                refine wpAnyH_ready (rs := [4, 9]) (by kernel_rfl) (by simp) ?_
                refine AllReadyH.cons opAt4 (fun K hK => ?_) ?_
                · refine step_appG (by rfl) _ _ 22 (by rfl) b0 24 i24 _ 8 88 Try.underlying22 hi24 z24 s24 b24 (by rfl) (by decide) _ 0 [] (by rfl) E.out k (cellsS (R.take k)) X1 (by rfl) (SRC1.out.kept K1.out) (by rw [cellsS_length, List.length_take, Nat.min_eq_left (by rw [HNL.out]; omega)]) (cellsS_one _) (by unfold maxLen; omega) (by omega) (Nat.le_trans B0.out K1.out.size) ?_
                  intro ao1 cap1 V2 hown hk hat
                  rw [Nat.zero_add, List.nil_append] at hown
                  rw [Nat.zero_add] at hat ⊢
                  have A1 := Lib.hid hown
                  have A1L := Lib.hid (show ∀ q, (Value.slice ao1 k cap1).ownBlock = some q → q < V2.heap.size from fun q hq => (own_lt hown hq).2)
                  have A1G := Lib.hid (show ∀ q, (Value.slice ao1 k cap1).ownBlock = some q → wr.heap.size ≤ q from fun q hq => hat.elim (fun h => by rw [h] at hq; cases hq; exact EG.out) (fun h => by rw [h] at hq; cases hq; exact K1.out.size))
                  have K2 := Lib.hid (K1.out.trans hk (fun _ _ f => f) (fun q h1 h2 => by cases h2; have h3 := EG.out; have h4 : e0 < wr.heap.size := h1; omega) : Kept (fun _ => False) wr V2)
                  clear hown hk hat
                  refine hK.out _ _ ?_ (fun hHeld => ?_)
                  · exact fun j u hu => K2.out.cell (ry j u hu) (fun f => f)
                  clear hK K
                  (try simp only [Act.put]); (try simp only [List.setIfInBounds_toArray]); (try simp only [List.set_cons_succ]); (try simp only [List.set_cons_zero])
                  refine wpAnyH_ready (rs := [9]) (by kernel_rfl) (by simp) ?_
                  refine AllReadyH.cons opAt9 (fun K hK => ?_) AllReadyH.nil
                  go_simp
                  have hn := World.news_of_block (heap_alloc_new V2 (.cells #[.int .i64 y.tr, .int .i64 y.id, .int .i64 y.pa, .string y.se, .string y.ho, .int .i64 y.st, .int .i64 y.du, .string y.no] 24))
                  have hk := (Kept.refl (fun _ => False) V2).alloc (.cells #[.int .i64 y.tr, .int .i64 y.id, .int .i64 y.pa, .string y.se, .string y.ho, .int .i64 y.st, .int .i64 y.du, .string y.no] 24)
                  have ge := K2.out.size
                  have lt_ : V2.heap.size < (V2.alloc (.cells #[.int .i64 y.tr, .int .i64 y.id, .int .i64 y.pa, .string y.se, .string y.ho, .int .i64 y.st, .int .i64 y.du, .string y.no] 24)).heap.size := by simp
                  generalize hV : V2.alloc (.cells #[.int .i64 y.tr, .int .i64 y.id, .int .i64 y.pa, .string y.se, .string y.ho, .int .i64 y.st, .int .i64 y.du, .string y.no] 24) = V3 at hn hk lt_ ⊢
                  generalize he : V2.heap.size = sb at hn ge lt_ ⊢
                  have SG := Lib.hid (show ∀ j u, y.cells[j]? = some u → _ from fun j u hu => hn j u hu)
                  have SLT := Lib.hid lt_
                  have K3 := Lib.hid (keptFF K2.out hk)
                  have A1 := Lib.hid (own_keptS A1.out hk (fun _ _ f => f))
                  have SN1 := Lib.hid (show ∀ q, (Value.slice ao1 k cap1).ownBlock = some q → q ≠ sb from fun q hq => by have h1 := A1L.out q hq; omega)
                  clear hn hk ge lt_ hV he
                  refine hK.out _ _ ?_ (fun hHeld => ?_)
                  · exact fun j u hu => K3.out.cell (ry j u hu) (fun f => f)
                  clear hK K
                  (try simp only [Act.put]); (try simp only [List.setIfInBounds_toArray]); (try simp only [List.set_cons_succ]); (try simp only [List.set_cons_zero])
                  refine wpAnyH_ready (rs := [10]) (by kernel_rfl) (by simp) ?_
                  refine AllReadyH.cons opAt10 (fun K hK => ?_) AllReadyH.nil
                  refine step_appG (by rfl) _ _ 22 (by rfl) b0 24 i24 _ 8 88 Try.underlying22 hi24 z24 s24 b24 (by rfl) (by decide) _ k _ (by rfl) A1.out 1 y.cells (.slice (some ⟨sb, 0, none⟩) 1 1) (by rfl) ⟨_, _, rfl, .inr ⟨⟨sb, 0, none⟩, rfl, SG.out⟩⟩ (by rfl) (fun u hu => by simp [Spn.cells] at hu; rcases hu with rfl | rfl | rfl | rfl | rfl | rfl | rfl | rfl <;> rfl) (by unfold maxLen; omega) (by omega) (Nat.le_trans B0.out K3.out.size) ?_
                  intro ao2 cap2 V4 hown hk hat
                  have A2 := Lib.hid hown
                  have A2G := Lib.hid (show ∀ q, (Value.slice ao2 (k + 1) cap2).ownBlock = some q → wr.heap.size ≤ q from fun q hq => hat.elim (fun h => by rw [h] at hq; exact A1G.out q hq) (fun h => by rw [h] at hq; cases hq; exact K3.out.size))
                  have K4 := Lib.hid (K3.out.trans hk (fun _ _ f => f) (fun q h1 h2 => by have h3 := A1G.out q h2; omega) : Kept (fun _ => False) wr V4)
                  clear hown hk hat
                  refine hK.out _ _ ?_ (fun hHeld => ?_)
                  · exact fun j u hu => K4.out.cell (ry j u hu) (fun f => f)
                  clear hK K
                  (try simp only [Act.put]); (try simp only [List.setIfInBounds_toArray]); (try simp only [List.set_cons_succ]); (try simp only [List.set_cons_zero])
                  refine wpAnyH_ready (rs := [14]) (by kernel_rfl) (by simp) ?_
                  refine AllReadyH.cons opAt14 (fun K hK => ?_) AllReadyH.nil
                  refine step_appG (by rfl) _ _ 22 (by rfl) b0 24 i24 _ 8 88 Try.underlying22 hi24 z24 s24 b24 (by rfl) (by decide) _ (k + 1) _ (by rfl) A2.out (n - k) (cellsS (R.drop k)) X2 (by rfl) (SRC2.out.kept K4.out) (by rw [cellsS_length, List.length_drop, HNL.out]) (cellsS_one _) (by unfold maxLen; omega) (by omega) (Nat.le_trans B0.out K4.out.size) ?_
                  intro ao3 cap3 V5 hown hk hat
                  have A3 := Lib.hid hown
                  have K5 := Lib.hid (K4.out.trans hk (fun _ _ f => f) (fun q h1 h2 => by have h3 := A2G.out q h2; omega) : Kept (fun _ => False) wr V5)
                  clear hown hk hat
                  refine hK.out _ _ ?_ (fun hHeld => ?_)
                  · exact fun j u hu => K5.out.cell (ry j u hu) (fun f => f)
                  clear hK K
                  (try simp only [Act.put]); (try simp only [List.setIfInBounds_toArray]); (try simp only [List.set_cons_succ]); (try simp only [List.set_cons_zero])
                  refine wpAnyH_take (i := 15) (v := ?_) opAt15 (by kernel_rfl) (by kernel_rfl) (by kernel_rfl) (fun _ _ _ h => h) (Or.inl ⟨by rfl, ?_⟩) hHeld ?_
                  case refine_2 => (intro w hSw; (try dsimp only at hSw); go_simp; all_goals (with_reducible rfl))
                  (try simp only [Act.put]); (try simp only [List.setIfInBounds_toArray]); (try simp only [List.set_cons_succ]); (try simp only [List.set_cons_zero])
                  refine wpAnyH_done (by kernel_rfl) ?_ _
                  go_wp2
                  go_roundg (m - (i + 1))
                  case measure => have := G1.out; omega
                  case rel => exact ⟨i + 1, _, _, k + 1 + (n - k), by omega, by go_num, rfl, by rw [INS.out]; simp [HNL.out]; omega, by rw [INS.out, cellsS_append, cellsS, ← List.append_assoc]; exact A3.out, keptFF KK.out K5.out⟩
                refine AllReadyH.cons opAt9 (fun K hK => ?_) AllReadyH.nil
                go_simp
                have hn := World.news_of_block (heap_alloc_new V1 (.cells #[.int .i64 y.tr, .int .i64 y.id, .int .i64 y.pa, .string y.se, .string y.ho, .int .i64 y.st, .int .i64 y.du, .string y.no] 24))
                have hk := (Kept.refl (fun _ => False) V1).alloc (.cells #[.int .i64 y.tr, .int .i64 y.id, .int .i64 y.pa, .string y.se, .string y.ho, .int .i64 y.st, .int .i64 y.du, .string y.no] 24)
                have ge := K1.out.size
                have lt_ : V1.heap.size < (V1.alloc (.cells #[.int .i64 y.tr, .int .i64 y.id, .int .i64 y.pa, .string y.se, .string y.ho, .int .i64 y.st, .int .i64 y.du, .string y.no] 24)).heap.size := by simp
                generalize hV : V1.alloc (.cells #[.int .i64 y.tr, .int .i64 y.id, .int .i64 y.pa, .string y.se, .string y.ho, .int .i64 y.st, .int .i64 y.du, .string y.no] 24) = V2 at hn hk lt_ ⊢
                generalize he : V1.heap.size = sb at hn ge lt_ ⊢
                have SG := Lib.hid (show ∀ j u, y.cells[j]? = some u → _ from fun j u hu => hn j u hu)
                have SLT := Lib.hid lt_
                have K2 := Lib.hid (keptFF K1.out hk)
                have E := Lib.hid (own_keptS E.out hk (fun _ _ f => f))
                have SNE := Lib.hid (show sb ≠ e0 from by have h1 := ELT.out; omega)
                clear hn hk ge lt_ hV he
                refine hK.out _ _ ?_ (fun hHeld => ?_)
                · exact fun j u hu => K2.out.cell (ry j u hu) (fun f => f)
                clear hK K
                (try simp only [Act.put]); (try simp only [List.setIfInBounds_toArray]); (try simp only [List.set_cons_succ]); (try simp only [List.set_cons_zero])
                refine wpAnyH_ready (rs := [4]) (by kernel_rfl) (by simp) ?_
                refine AllReadyH.cons opAt4 (fun K hK => ?_) AllReadyH.nil
                refine step_appG (by rfl) _ _ 22 (by rfl) b0 24 i24 _ 8 88 Try.underlying22 hi24 z24 s24 b24 (by rfl) (by decide) _ 0 [] (by rfl) E.out k (cellsS (R.take k)) X1 (by rfl) (SRC1.out.kept K2.out) (by rw [cellsS_length, List.length_take, Nat.min_eq_left (by rw [HNL.out]; omega)]) (cellsS_one _) (by unfold maxLen; omega) (by omega) (Nat.le_trans B0.out K2.out.size) ?_
                intro ao1 cap1 V3 hown hk hat
                rw [Nat.zero_add, List.nil_append] at hown
                rw [Nat.zero_add] at hat ⊢
                have A1 := Lib.hid hown
                have A1L := Lib.hid (show ∀ q, (Value.slice ao1 k cap1).ownBlock = some q → q < V3.heap.size from fun q hq => (own_lt hown hq).2)
                have A1G := Lib.hid (show ∀ q, (Value.slice ao1 k cap1).ownBlock = some q → wr.heap.size ≤ q from fun q hq => hat.elim (fun h => by rw [h] at hq; cases hq; exact EG.out) (fun h => by rw [h] at hq; cases hq; exact K2.out.size))
                have K3 := Lib.hid (K2.out.trans hk (fun _ _ f => f) (fun q h1 h2 => by cases h2; have h3 := EG.out; have h4 : e0 < wr.heap.size := h1; omega) : Kept (fun _ => False) wr V3)
                have SG := Lib.hid (show ∀ j u, y.cells[j]? = some u → V3.cell? ((⟨sb, 0, none⟩ : Addr).add j) = some u from fun j u hu => hk.cell (SG.out j u hu) (fun h => by cases h; have h3 := SNE.out; simp [add_mid] at h3))
                have SN1 := Lib.hid (show ∀ q, (Value.slice ao1 k cap1).ownBlock = some q → q ≠ sb from fun q hq => hat.elim (fun h => by rw [h] at hq; cases hq; exact fun e => SNE.out e.symm) (fun h => by rw [h] at hq; cases hq; have h1 := SLT.out; omega))
                clear hown hk hat
                refine hK.out _ _ ?_ (fun hHeld => ?_)
                · exact fun j u hu => K3.out.cell (ry j u hu) (fun f => f)
                clear hK K
                (try simp only [Act.put]); (try simp only [List.setIfInBounds_toArray]); (try simp only [List.set_cons_succ]); (try simp only [List.set_cons_zero])
                refine wpAnyH_ready (rs := [10]) (by kernel_rfl) (by simp) ?_
                refine AllReadyH.cons opAt10 (fun K hK => ?_) AllReadyH.nil
                refine step_appG (by rfl) _ _ 22 (by rfl) b0 24 i24 _ 8 88 Try.underlying22 hi24 z24 s24 b24 (by rfl) (by decide) _ k _ (by rfl) A1.out 1 y.cells (.slice (some ⟨sb, 0, none⟩) 1 1) (by rfl) ⟨_, _, rfl, .inr ⟨⟨sb, 0, none⟩, rfl, SG.out⟩⟩ (by rfl) (fun u hu => by simp [Spn.cells] at hu; rcases hu with rfl | rfl | rfl | rfl | rfl | rfl | rfl | rfl <;> rfl) (by unfold maxLen; omega) (by omega) (Nat.le_trans B0.out K3.out.size) ?_
                intro ao2 cap2 V4 hown hk hat
                have A2 := Lib.hid hown
                have A2G := Lib.hid (show ∀ q, (Value.slice ao2 (k + 1) cap2).ownBlock = some q → wr.heap.size ≤ q from fun q hq => hat.elim (fun h => by rw [h] at hq; exact A1G.out q hq) (fun h => by rw [h] at hq; cases hq; exact K3.out.size))
                have K4 := Lib.hid (K3.out.trans hk (fun _ _ f => f) (fun q h1 h2 => by have h3 := A1G.out q h2; omega) : Kept (fun _ => False) wr V4)
                clear hown hk hat
                refine hK.out _ _ ?_ (fun hHeld => ?_)
                · exact fun j u hu => K4.out.cell (ry j u hu) (fun f => f)
                clear hK K
                (try simp only [Act.put]); (try simp only [List.setIfInBounds_toArray]); (try simp only [List.set_cons_succ]); (try simp only [List.set_cons_zero])
                refine wpAnyH_ready (rs := [14]) (by kernel_rfl) (by simp) ?_
                refine AllReadyH.cons opAt14 (fun K hK => ?_) AllReadyH.nil
                refine step_appG (by rfl) _ _ 22 (by rfl) b0 24 i24 _ 8 88 Try.underlying22 hi24 z24 s24 b24 (by rfl) (by decide) _ (k + 1) _ (by rfl) A2.out (n - k) (cellsS (R.drop k)) X2 (by rfl) (SRC2.out.kept K4.out) (by rw [cellsS_length, List.length_drop, HNL.out]) (cellsS_one _) (by unfold maxLen; omega) (by omega) (Nat.le_trans B0.out K4.out.size) ?_
                intro ao3 cap3 V5 hown hk hat
                have A3 := Lib.hid hown
                have K5 := Lib.hid (K4.out.trans hk (fun _ _ f => f) (fun q h1 h2 => by have h3 := A2G.out q h2; omega) : Kept (fun _ => False) wr V5)
                clear hown hk hat
                refine hK.out _ _ ?_ (fun hHeld => ?_)
                · exact fun j u hu => K5.out.cell (ry j u hu) (fun f => f)
                clear hK K
                (try simp only [Act.put]); (try simp only [List.setIfInBounds_toArray]); (try simp only [List.set_cons_succ]); (try simp only [List.set_cons_zero])
                refine wpAnyH_take (i := 15) (v := ?_) opAt15 (by kernel_rfl) (by kernel_rfl) (by kernel_rfl) (fun _ _ _ h => h) (Or.inl ⟨by rfl, ?_⟩) hHeld ?_
                case refine_2 => (intro w hSw; (try dsimp only at hSw); go_simp; all_goals (with_reducible rfl))
                (try simp only [Act.put]); (try simp only [List.setIfInBounds_toArray]); (try simp only [List.set_cons_succ]); (try simp only [List.set_cons_zero])
                refine wpAnyH_done (by kernel_rfl) ?_ _
                go_wp2
                go_roundg (m - (i + 1))
                case measure => have := G1.out; omega
                case rel => exact ⟨i + 1, _, _, k + 1 + (n - k), by omega, by go_num, rfl, by rw [INS.out]; simp [HNL.out]; omega, by rw [INS.out, cellsS_append, cellsS, ← List.append_assoc]; exact A3.out, keptFF KK.out K5.out⟩
              refine AllReadyH.cons opAt9 (fun K hK => ?_) AllReadyH.nil
              go_simp
              have hn := World.news_of_block (heap_alloc_new V0 (.cells #[.int .i64 y.tr, .int .i64 y.id, .int .i64 y.pa, .string y.se, .string y.ho, .int .i64 y.st, .int .i64 y.du, .string y.no] 24))
              have hk := (Kept.refl (fun _ => False) V0).alloc (.cells #[.int .i64 y.tr, .int .i64 y.id, .int .i64 y.pa, .string y.se, .string y.ho, .int .i64 y.st, .int .i64 y.du, .string y.no] 24)
              have ge := K0.out.size
              have lt_ : V0.heap.size < (V0.alloc (.cells #[.int .i64 y.tr, .int .i64 y.id, .int .i64 y.pa, .string y.se, .string y.ho, .int .i64 y.st, .int .i64 y.du, .string y.no] 24)).heap.size := by simp
              generalize hV : V0.alloc (.cells #[.int .i64 y.tr, .int .i64 y.id, .int .i64 y.pa, .string y.se, .string y.ho, .int .i64 y.st, .int .i64 y.du, .string y.no] 24) = V1 at hn hk lt_ ⊢
              generalize he : V0.heap.size = sb at hn ge lt_ ⊢
              have SG := Lib.hid (show ∀ j u, y.cells[j]? = some u → _ from fun j u hu => hn j u hu)
              have SLT := Lib.hid lt_
              have K1 := Lib.hid (keptFF K0.out hk)
              clear hn hk ge lt_ hV he
              refine hK.out _ _ ?_ (fun hHeld => ?_)
              · exact fun j u hu => K1.out.cell (ry j u hu) (fun f => f)
              clear hK K
              (try simp only [Act.put]); (try simp only [List.setIfInBounds_toArray]); (try simp only [List.set_cons_succ]); (try simp only [List.set_cons_zero])
              refine wpAnyH_ready (rs := [0]) (by kernel_rfl) (by simp) ?_
              refine AllReadyH.cons opAt0 (fun K hK => ?_) AllReadyH.nil
              go_simp
              have ho := World.ownsRow_made V1 #[] 0 (Nat.le_trans B0.out K1.out.size) (by unfold maxLen; omega) (by rfl) (e := 24) (size := 8) (base := b0)
              have hk := (Kept.refl (fun _ => False) V1).alloc (.cells #[] 24)
              have ge := K1.out.size
              have lt_ : V1.heap.size < (V1.alloc (.cells #[] 24)).heap.size := by simp
              have SNEp := Lib.hid (show sb ≠ V1.heap.size from by have h1 := SLT.out; omega)
              generalize hV : V1.alloc (.cells #[] 24) = V2 at ho hk lt_ ⊢
              generalize he : V1.heap.size = e0 at ho ge lt_ SNEp ⊢
              have E := Lib.hid ho
              have EG := Lib.hid ge
              have ELT := Lib.hid lt_
              have K2 := Lib.hid (keptFF K1.out hk)
              have SG := Lib.hid (show ∀ j u, y.cells[j]? = some u → V2.cell? ((⟨sb, 0, none⟩ : Addr).add j) = some u from fun j u hu => hk.cell (SG.out j u hu) (fun f => f))
              have SNE := SNEp
              have SLT := Lib.hid (show sb < V2.heap.size from by have h1 := SLT.out; have h2 := hk.size; omega)
              clear ho hk ge lt_ hV he
              refine hK.out _ _ ?_ (fun hHeld => ?_)
              · exact fun j u hu => K2.out.cell (ry j u hu) (fun f => f)
              clear hK K
              (try simp only [Act.put]); (try simp only [List.setIfInBounds_toArray]); (try simp only [List.set_cons_succ]); (try simp only [List.set_cons_zero])
              refine wpAnyH_ready (rs := [4]) (by kernel_rfl) (by simp) ?_
              refine AllReadyH.cons opAt4 (fun K hK => ?_) AllReadyH.nil
              refine step_appG (by rfl) _ _ 22 (by rfl) b0 24 i24 _ 8 88 Try.underlying22 hi24 z24 s24 b24 (by rfl) (by decide) _ 0 [] (by rfl) E.out k (cellsS (R.take k)) X1 (by rfl) (SRC1.out.kept K2.out) (by rw [cellsS_length, List.length_take, Nat.min_eq_left (by rw [HNL.out]; omega)]) (cellsS_one _) (by unfold maxLen; omega) (by omega) (Nat.le_trans B0.out K2.out.size) ?_
              intro ao1 cap1 V3 hown hk hat
              rw [Nat.zero_add, List.nil_append] at hown
              rw [Nat.zero_add] at hat ⊢
              have A1 := Lib.hid hown
              have A1L := Lib.hid (show ∀ q, (Value.slice ao1 k cap1).ownBlock = some q → q < V3.heap.size from fun q hq => (own_lt hown hq).2)
              have A1G := Lib.hid (show ∀ q, (Value.slice ao1 k cap1).ownBlock = some q → wr.heap.size ≤ q from fun q hq => hat.elim (fun h => by rw [h] at hq; cases hq; exact EG.out) (fun h => by rw [h] at hq; cases hq; exact K2.out.size))
              have K3 := Lib.hid (K2.out.trans hk (fun _ _ f => f) (fun q h1 h2 => by cases h2; have h3 := EG.out; have h4 : e0 < wr.heap.size := h1; omega) : Kept (fun _ => False) wr V3)
              have SG := Lib.hid (show ∀ j u, y.cells[j]? = some u → V3.cell? ((⟨sb, 0, none⟩ : Addr).add j) = some u from fun j u hu => hk.cell (SG.out j u hu) (fun h => by cases h; have h3 := SNE.out; simp [add_mid] at h3))
              have SN1 := Lib.hid (show ∀ q, (Value.slice ao1 k cap1).ownBlock = some q → q ≠ sb from fun q hq => hat.elim (fun h => by rw [h] at hq; cases hq; exact fun e => SNE.out e.symm) (fun h => by rw [h] at hq; cases hq; have h1 := SLT.out; omega))
              clear hown hk hat
              refine hK.out _ _ ?_ (fun hHeld => ?_)
              · exact fun j u hu => K3.out.cell (ry j u hu) (fun f => f)
              clear hK K
              (try simp only [Act.put]); (try simp only [List.setIfInBounds_toArray]); (try simp only [List.set_cons_succ]); (try simp only [List.set_cons_zero])
              refine wpAnyH_ready (rs := [10]) (by kernel_rfl) (by simp) ?_
              refine AllReadyH.cons opAt10 (fun K hK => ?_) AllReadyH.nil
              refine step_appG (by rfl) _ _ 22 (by rfl) b0 24 i24 _ 8 88 Try.underlying22 hi24 z24 s24 b24 (by rfl) (by decide) _ k _ (by rfl) A1.out 1 y.cells (.slice (some ⟨sb, 0, none⟩) 1 1) (by rfl) ⟨_, _, rfl, .inr ⟨⟨sb, 0, none⟩, rfl, SG.out⟩⟩ (by rfl) (fun u hu => by simp [Spn.cells] at hu; rcases hu with rfl | rfl | rfl | rfl | rfl | rfl | rfl | rfl <;> rfl) (by unfold maxLen; omega) (by omega) (Nat.le_trans B0.out K3.out.size) ?_
              intro ao2 cap2 V4 hown hk hat
              have A2 := Lib.hid hown
              have A2G := Lib.hid (show ∀ q, (Value.slice ao2 (k + 1) cap2).ownBlock = some q → wr.heap.size ≤ q from fun q hq => hat.elim (fun h => by rw [h] at hq; exact A1G.out q hq) (fun h => by rw [h] at hq; cases hq; exact K3.out.size))
              have K4 := Lib.hid (K3.out.trans hk (fun _ _ f => f) (fun q h1 h2 => by have h3 := A1G.out q h2; omega) : Kept (fun _ => False) wr V4)
              clear hown hk hat
              refine hK.out _ _ ?_ (fun hHeld => ?_)
              · exact fun j u hu => K4.out.cell (ry j u hu) (fun f => f)
              clear hK K
              (try simp only [Act.put]); (try simp only [List.setIfInBounds_toArray]); (try simp only [List.set_cons_succ]); (try simp only [List.set_cons_zero])
              refine wpAnyH_ready (rs := [14]) (by kernel_rfl) (by simp) ?_
              refine AllReadyH.cons opAt14 (fun K hK => ?_) AllReadyH.nil
              refine step_appG (by rfl) _ _ 22 (by rfl) b0 24 i24 _ 8 88 Try.underlying22 hi24 z24 s24 b24 (by rfl) (by decide) _ (k + 1) _ (by rfl) A2.out (n - k) (cellsS (R.drop k)) X2 (by rfl) (SRC2.out.kept K4.out) (by rw [cellsS_length, List.length_drop, HNL.out]) (cellsS_one _) (by unfold maxLen; omega) (by omega) (Nat.le_trans B0.out K4.out.size) ?_
              intro ao3 cap3 V5 hown hk hat
              have A3 := Lib.hid hown
              have K5 := Lib.hid (K4.out.trans hk (fun _ _ f => f) (fun q h1 h2 => by have h3 := A2G.out q h2; omega) : Kept (fun _ => False) wr V5)
              clear hown hk hat
              refine hK.out _ _ ?_ (fun hHeld => ?_)
              · exact fun j u hu => K5.out.cell (ry j u hu) (fun f => f)
              clear hK K
              (try simp only [Act.put]); (try simp only [List.setIfInBounds_toArray]); (try simp only [List.set_cons_succ]); (try simp only [List.set_cons_zero])
              refine wpAnyH_take (i := 15) (v := ?_) opAt15 (by kernel_rfl) (by kernel_rfl) (by kernel_rfl) (fun _ _ _ h => h) (Or.inl ⟨by rfl, ?_⟩) hHeld ?_
              case refine_2 => (intro w hSw; (try dsimp only at hSw); go_simp; all_goals (with_reducible rfl))
              (try simp only [Act.put]); (try simp only [List.setIfInBounds_toArray]); (try simp only [List.set_cons_succ]); (try simp only [List.set_cons_zero])
              refine wpAnyH_done (by kernel_rfl) ?_ _
              go_wp2
              go_roundg (m - (i + 1))
              case measure => have := G1.out; omega
              case rel => exact ⟨i + 1, _, _, k + 1 + (n - k), by omega, by go_num, rfl, by rw [INS.out]; simp [HNL.out]; omega, by rw [INS.out, cellsS_append, cellsS, ← List.append_assoc]; exact A3.out, keptFF KK.out K5.out⟩
        · have k0 : ¬ (k : Int) < (n : Int) := by omega
          have d0 : decide ((k : Int) < (n : Int)) = false := by simp; omega
          go_wp2
          refine wp_region_held_drew (S := (fun _ => True)) (by kernel_rfl) ?_ (fun hHeld => ?_)
          · trivial
          refine wpAnyH_take (i := 0) (v := ?_) opAt0 (by kernel_rfl) (by kernel_rfl) (by kernel_rfl) (fun _ _ _ h => h) (Or.inl ⟨by rfl, ?_⟩) hHeld ?_
          case refine_2 => (intro w hSw; (try dsimp only at hSw); go_simp; all_goals (with_reducible rfl))
          (try simp only [Act.put]); (try simp only [List.setIfInBounds_toArray]); (try simp only [List.set_cons_succ]); (try simp only [List.set_cons_zero])
          refine wpAnyH_take (i := 1) (v := ?_) opAt1 (by kernel_rfl) (by kernel_rfl) (by kernel_rfl) (fun _ _ _ h => h) (Or.inl ⟨by rfl, ?_⟩) hHeld ?_
          case refine_2 => (intro w hSw; (try dsimp only at hSw); go_simp; all_goals (with_reducible rfl))
          (try simp only [Act.put]); (try simp only [List.setIfInBounds_toArray]); (try simp only [List.set_cons_succ]); (try simp only [List.set_cons_zero])
          refine wpAnyH_take (i := 2) (v := ?_) opAt2 (by kernel_rfl) (by kernel_rfl) (by kernel_rfl) (fun _ _ _ h => h) (Or.inl ⟨by rfl, ?_⟩) hHeld ?_
          case refine_2 => (intro w hSw; (try dsimp only at hSw); go_simp; all_goals (with_reducible rfl))
          (try simp only [Act.put]); (try simp only [List.setIfInBounds_toArray]); (try simp only [List.set_cons_succ]); (try simp only [List.set_cons_zero])
          refine wpAnyH_take (i := 3) (v := ?_) opAt3 (by kernel_rfl) (by kernel_rfl) (by kernel_rfl) (fun _ _ _ h => h) (Or.inl ⟨by rfl, ?_⟩) hHeld ?_
          case refine_2 => (intro w hSw; (try dsimp only at hSw); go_simp; all_goals (with_reducible rfl))
          (try simp only [Act.put]); (try simp only [List.setIfInBounds_toArray]); (try simp only [List.set_cons_succ]); (try simp only [List.set_cons_zero])
          refine wpAnyH_take (i := 4) (v := ?_) opAt4 (by kernel_rfl) (by kernel_rfl) (by kernel_rfl) (fun _ _ _ h => h) (Or.inl ⟨by rfl, ?_⟩) hHeld ?_
          case refine_2 => (intro w hSw; (try dsimp only at hSw); go_simp; all_goals (with_reducible rfl))
          (try simp only [Act.put]); (try simp only [List.setIfInBounds_toArray]); (try simp only [List.set_cons_succ]); (try simp only [List.set_cons_zero])
          refine wpAnyH_take (i := 5) opAt5 (by kernel_rfl) (by kernel_rfl) (by kernel_rfl) (fun _ _ _ h => h) (Or.inr ⟨by rfl, rfl⟩) hHeld ?_
          (try simp only [Act.put]); (try simp only [List.setIfInBounds_toArray]); (try simp only [List.set_cons_succ]); (try simp only [List.set_cons_zero])
          refine wpAnyH_take (i := 6) opAt6 (by kernel_rfl) (by kernel_rfl) (by kernel_rfl) (fun _ _ _ h => h) (Or.inr ⟨by rfl, rfl⟩) hHeld ?_
          (try simp only [Act.put]); (try simp only [List.setIfInBounds_toArray]); (try simp only [List.set_cons_succ]); (try simp only [List.set_cons_zero])
          refine wpAnyH_take (i := 7) opAt7 (by kernel_rfl) (by kernel_rfl) (by kernel_rfl) (fun _ _ _ h => h) (Or.inr ⟨by rfl, rfl⟩) hHeld ?_
          (try simp only [Act.put]); (try simp only [List.setIfInBounds_toArray]); (try simp only [List.set_cons_succ]); (try simp only [List.set_cons_zero])
          refine wpAnyH_take (i := 8) opAt8 (by kernel_rfl) (by kernel_rfl) (by kernel_rfl) (fun _ _ _ h => h) (Or.inr ⟨by rfl, rfl⟩) hHeld ?_
          (try simp only [Act.put]); (try simp only [List.setIfInBounds_toArray]); (try simp only [List.set_cons_succ]); (try simp only [List.set_cons_zero])
          refine wpAnyH_take (i := 9) opAt9 (by kernel_rfl) (by kernel_rfl) (by kernel_rfl) (fun _ _ _ h => h) (Or.inr ⟨by rfl, rfl⟩) hHeld ?_
          (try simp only [Act.put]); (try simp only [List.setIfInBounds_toArray]); (try simp only [List.set_cons_succ]); (try simp only [List.set_cons_zero])
          refine wpAnyH_take (i := 10) opAt10 (by kernel_rfl) (by kernel_rfl) (by kernel_rfl) (fun _ _ _ h => h) (Or.inr ⟨by rfl, rfl⟩) hHeld ?_
          (try simp only [Act.put]); (try simp only [List.setIfInBounds_toArray]); (try simp only [List.set_cons_succ]); (try simp only [List.set_cons_zero])
          refine wpAnyH_take (i := 11) opAt11 (by kernel_rfl) (by kernel_rfl) (by kernel_rfl) (fun _ _ _ h => h) (Or.inr ⟨by rfl, rfl⟩) hHeld ?_
          (try simp only [Act.put]); (try simp only [List.setIfInBounds_toArray]); (try simp only [List.set_cons_succ]); (try simp only [List.set_cons_zero])
          refine wpAnyH_take (i := 12) opAt12 (by kernel_rfl) (by kernel_rfl) (by kernel_rfl) (fun _ _ _ h => h) (Or.inr ⟨by rfl, rfl⟩) hHeld ?_
          (try simp only [Act.put]); (try simp only [List.setIfInBounds_toArray]); (try simp only [List.set_cons_succ]); (try simp only [List.set_cons_zero])
          refine wpAnyH_take (i := 13) opAt13 (by kernel_rfl) (by kernel_rfl) (by kernel_rfl) (fun _ _ _ h => h) (Or.inr ⟨by rfl, rfl⟩) hHeld ?_
          (try simp only [Act.put]); (try simp only [List.setIfInBounds_toArray]); (try simp only [List.set_cons_succ]); (try simp only [List.set_cons_zero])
          refine wpAnyH_take (i := 14) opAt14 (by kernel_rfl) (by kernel_rfl) (by kernel_rfl) (fun _ _ _ h => h) (Or.inr ⟨by rfl, rfl⟩) hHeld ?_
          (try simp only [Act.put]); (try simp only [List.setIfInBounds_toArray]); (try simp only [List.set_cons_succ]); (try simp only [List.set_cons_zero])
          refine wpAnyH_take (i := 15) opAt15 (by kernel_rfl) (by kernel_rfl) (by kernel_rfl) (fun _ _ _ h => h) (Or.inr ⟨by rfl, rfl⟩) hHeld ?_
          (try simp only [Act.put]); (try simp only [List.setIfInBounds_toArray]); (try simp only [List.set_cons_succ]); (try simp only [List.set_cons_zero])
          refine wpAnyH_take (i := 16) (v := ?_) opAt16 (by kernel_rfl) (by kernel_rfl) (by kernel_rfl) (fun _ _ _ h => h) (Or.inl ⟨by rfl, ?_⟩) hHeld ?_
          case refine_2 => (intro w hSw; (try dsimp only at hSw); go_simp; all_goals (with_reducible rfl))
          (try simp only [Act.put]); (try simp only [List.setIfInBounds_toArray]); (try simp only [List.set_cons_succ]); (try simp only [List.set_cons_zero])
          refine wpAnyH_done (by kernel_rfl) ?_ _
          have d1 : ((k : Int) == (n : Int)) = true := by have := G2.out; simp; omega
          have INS := Lib.hid (show cntN L (i + 1) = R.take k ++ y :: R.drop k from by
            have hkn' : k = R.length := by rw [HNL.out]; have := G2.out; omega
            rw [cntN, HR.out, HY.out, insS_at R y k (by omega) LOW.out (.inl hkn'), if_pos (.inl hkn')])
          go_wp2
          refine wp_region_held_drew (S := (fun _ => True)) (by kernel_rfl) ?_ (fun hHeld => ?_)
          · trivial
          refine wpAnyH_take (i := 0) (v := ?_) opAt0 (by kernel_rfl) (by kernel_rfl) (by kernel_rfl) (fun _ _ _ h => h) (Or.inl ⟨by rfl, ?_⟩) hHeld ?_
          case refine_2 => (intro w hSw; (try dsimp only at hSw); go_simp; all_goals (with_reducible rfl))
          (try simp only [Act.put]); (try simp only [List.setIfInBounds_toArray]); (try simp only [List.set_cons_succ]); (try simp only [List.set_cons_zero])
          refine wpAnyH_take (i := 1) (v := ?_) opAt1 (by kernel_rfl) (by kernel_rfl) (by kernel_rfl) (fun _ _ _ h => h) (Or.inl ⟨by rfl, ?_⟩) hHeld ?_
          case refine_2 => (intro w hSw; (try dsimp only at hSw); go_simp; all_goals (with_reducible rfl))
          (try simp only [Act.put]); (try simp only [List.setIfInBounds_toArray]); (try simp only [List.set_cons_succ]); (try simp only [List.set_cons_zero])
          refine wpAnyH_take (i := 2) (v := ?_) opAt2 (by kernel_rfl) (by kernel_rfl) (by kernel_rfl) (fun _ _ _ h => h) (Or.inl ⟨by rfl, ?_⟩) hHeld ?_
          case refine_2 => (intro w hSw; (try dsimp only at hSw); go_simp; all_goals (with_reducible rfl))
          (try simp only [Act.put]); (try simp only [List.setIfInBounds_toArray]); (try simp only [List.set_cons_succ]); (try simp only [List.set_cons_zero])
          refine wpAnyH_take (i := 3) (v := ?_) opAt3 (by kernel_rfl) (by kernel_rfl) (by kernel_rfl) (fun _ _ _ h => h) (Or.inl ⟨by rfl, ?_⟩) hHeld ?_
          case refine_2 => (intro w hSw; (try dsimp only at hSw); go_simp; all_goals (with_reducible rfl))
          (try simp only [Act.put]); (try simp only [List.setIfInBounds_toArray]); (try simp only [List.set_cons_succ]); (try simp only [List.set_cons_zero])
          refine wpAnyH_take (i := 4) (v := ?_) opAt4 (by kernel_rfl) (by kernel_rfl) (by kernel_rfl) (fun _ _ _ h => h) (Or.inl ⟨by rfl, ?_⟩) hHeld ?_
          case refine_2 => (intro w hSw; (try dsimp only at hSw); go_simp; all_goals (with_reducible rfl))
          (try simp only [Act.put]); (try simp only [List.setIfInBounds_toArray]); (try simp only [List.set_cons_succ]); (try simp only [List.set_cons_zero])
          refine wpAnyH_take (i := 5) opAt5 (by kernel_rfl) (by kernel_rfl) (by kernel_rfl) (fun _ _ _ h => h) (Or.inr ⟨by rfl, rfl⟩) hHeld ?_
          (try simp only [Act.put]); (try simp only [List.setIfInBounds_toArray]); (try simp only [List.set_cons_succ]); (try simp only [List.set_cons_zero])
          refine wpAnyH_take (i := 6) opAt6 (by kernel_rfl) (by kernel_rfl) (by kernel_rfl) (fun _ _ _ h => h) (Or.inr ⟨by rfl, rfl⟩) hHeld ?_
          (try simp only [Act.put]); (try simp only [List.setIfInBounds_toArray]); (try simp only [List.set_cons_succ]); (try simp only [List.set_cons_zero])
          refine wpAnyH_take (i := 7) opAt7 (by kernel_rfl) (by kernel_rfl) (by kernel_rfl) (fun _ _ _ h => h) (Or.inr ⟨by rfl, rfl⟩) hHeld ?_
          (try simp only [Act.put]); (try simp only [List.setIfInBounds_toArray]); (try simp only [List.set_cons_succ]); (try simp only [List.set_cons_zero])
          refine wpAnyH_take (i := 8) opAt8 (by kernel_rfl) (by kernel_rfl) (by kernel_rfl) (fun _ _ _ h => h) (Or.inr ⟨by rfl, rfl⟩) hHeld ?_
          (try simp only [Act.put]); (try simp only [List.setIfInBounds_toArray]); (try simp only [List.set_cons_succ]); (try simp only [List.set_cons_zero])
          refine wpAnyH_take (i := 9) opAt9 (by kernel_rfl) (by kernel_rfl) (by kernel_rfl) (fun _ _ _ h => h) (Or.inr ⟨by rfl, rfl⟩) hHeld ?_
          (try simp only [Act.put]); (try simp only [List.setIfInBounds_toArray]); (try simp only [List.set_cons_succ]); (try simp only [List.set_cons_zero])
          refine wpAnyH_take (i := 10) opAt10 (by kernel_rfl) (by kernel_rfl) (by kernel_rfl) (fun _ _ _ h => h) (Or.inr ⟨by rfl, rfl⟩) hHeld ?_
          (try simp only [Act.put]); (try simp only [List.setIfInBounds_toArray]); (try simp only [List.set_cons_succ]); (try simp only [List.set_cons_zero])
          refine wpAnyH_take (i := 11) opAt11 (by kernel_rfl) (by kernel_rfl) (by kernel_rfl) (fun _ _ _ h => h) (Or.inr ⟨by rfl, rfl⟩) hHeld ?_
          (try simp only [Act.put]); (try simp only [List.setIfInBounds_toArray]); (try simp only [List.set_cons_succ]); (try simp only [List.set_cons_zero])
          refine wpAnyH_take (i := 12) opAt12 (by kernel_rfl) (by kernel_rfl) (by kernel_rfl) (fun _ _ _ h => h) (Or.inr ⟨by rfl, rfl⟩) hHeld ?_
          (try simp only [Act.put]); (try simp only [List.setIfInBounds_toArray]); (try simp only [List.set_cons_succ]); (try simp only [List.set_cons_zero])
          refine wpAnyH_take (i := 13) opAt13 (by kernel_rfl) (by kernel_rfl) (by kernel_rfl) (fun _ _ _ h => h) (Or.inr ⟨by rfl, rfl⟩) hHeld ?_
          (try simp only [Act.put]); (try simp only [List.setIfInBounds_toArray]); (try simp only [List.set_cons_succ]); (try simp only [List.set_cons_zero])
          refine wpAnyH_take (i := 14) opAt14 (by kernel_rfl) (by kernel_rfl) (by kernel_rfl) (fun _ _ _ h => h) (Or.inr ⟨by rfl, rfl⟩) hHeld ?_
          (try simp only [Act.put]); (try simp only [List.setIfInBounds_toArray]); (try simp only [List.set_cons_succ]); (try simp only [List.set_cons_zero])
          refine wpAnyH_take (i := 15) opAt15 (by kernel_rfl) (by kernel_rfl) (by kernel_rfl) (fun _ _ _ h => h) (Or.inr ⟨by rfl, rfl⟩) hHeld ?_
          (try simp only [Act.put]); (try simp only [List.setIfInBounds_toArray]); (try simp only [List.set_cons_succ]); (try simp only [List.set_cons_zero])
          refine wpAnyH_take (i := 16) (v := ?_) opAt16 (by kernel_rfl) (by kernel_rfl) (by kernel_rfl) (fun _ _ _ h => h) (Or.inl ⟨by rfl, ?_⟩) hHeld ?_
          case refine_2 => (intro w hSw; (try dsimp only at hSw); go_simp; all_goals (with_reducible rfl))
          (try simp only [Act.put]); (try simp only [List.setIfInBounds_toArray]); (try simp only [List.set_cons_succ]); (try simp only [List.set_cons_zero])
          refine wpAnyH_done (by kernel_rfl) ?_ _
          obtain ⟨X1, X2, rs1, rs2, sr1, sr2⟩ := slices_of ROW.out HNL.out k (by have := G2.out; omega)
          have SRC1 := Lib.hid sr1; have SRC2 := Lib.hid sr2
          have hkle : k ≤ n := by have := G2.out; omega
          clear sr1 sr2
          go_wp2
          refine wp_region_held_drew (S := (fun w' => w'.rangeAt g2 (o2 + i * 8) y.cells)) (by kernel_rfl) ?_ (fun hHeld => ?_)
          · exact ry
          refine wpAnyH_take (i := 1) (v := ?_) opAt1 (by kernel_rfl) (by kernel_rfl) (by kernel_rfl) (fun _ _ _ h => h) (Or.inl ⟨by rfl, ?_⟩) hHeld ?_
          case refine_2 => (intro w hSw; (try dsimp only at hSw); go_simp; all_goals (with_reducible rfl))
          (try simp only [Act.put]); (try simp only [List.setIfInBounds_toArray]); (try simp only [List.set_cons_succ]); (try simp only [List.set_cons_zero])
          refine wpAnyH_take (i := 2) (v := ?_) opAt2 (by kernel_rfl) (by kernel_rfl) (by kernel_rfl) (fun _ _ _ h => h) (Or.inl ⟨by rfl, ?_⟩) hHeld ?_
          case refine_2 => (intro w hSw; (try dsimp only at hSw); go_simp; all_goals (with_reducible rfl))
          (try simp only [Act.put]); (try simp only [List.setIfInBounds_toArray]); (try simp only [List.set_cons_succ]); (try simp only [List.set_cons_zero])
          refine wpAnyH_take (i := 3) (v := ?_) opAt3 (by kernel_rfl) (by kernel_rfl) (by kernel_rfl) (fun _ _ _ h => h) (Or.inl ⟨by rfl, ?_⟩) hHeld ?_
          case refine_2 => (intro w hSw; (try dsimp only at hSw); go_simp; all_goals (with_reducible rfl))
          (try simp only [Act.put]); (try simp only [List.setIfInBounds_toArray]); (try simp only [List.set_cons_succ]); (try simp only [List.set_cons_zero])
          refine wpAnyH_take (i := 5) (v := ?_) opAt5 (by kernel_rfl) (by kernel_rfl) (by kernel_rfl) (fun _ _ _ h => h) (Or.inl ⟨by rfl, ?_⟩) hHeld ?_
          case refine_2 => (intro w hSw; (try dsimp only at hSw); go_simp; all_goals (with_reducible rfl))
          (try simp only [Act.put]); (try simp only [List.setIfInBounds_toArray]); (try simp only [List.set_cons_succ]); (try simp only [List.set_cons_zero])
          refine wpAnyH_take (i := 6) (v := ?_) opAt6 (by kernel_rfl) (by kernel_rfl) (by kernel_rfl) (fun _ _ _ h => h) (Or.inl ⟨by rfl, ?_⟩) hHeld ?_
          case refine_2 => (intro w hSw; (try dsimp only at hSw); go_simp; all_goals (with_reducible rfl))
          (try simp only [Act.put]); (try simp only [List.setIfInBounds_toArray]); (try simp only [List.set_cons_succ]); (try simp only [List.set_cons_zero])
          refine wpAnyH_take (i := 7) (v := ?_) opAt7 (by kernel_rfl) (by kernel_rfl) (by kernel_rfl) (fun _ _ _ h => h) (Or.inl ⟨by rfl, ?_⟩) hHeld ?_
          case refine_2 => (intro w hSw; (try dsimp only at hSw); go_simp; all_goals (with_reducible rfl))
          (try simp only [Act.put]); (try simp only [List.setIfInBounds_toArray]); (try simp only [List.set_cons_succ]); (try simp only [List.set_cons_zero])
          refine wpAnyH_take (i := 8) (v := .agg #[.int .i64 y.tr, .int .i64 y.id, .int .i64 y.pa, .string y.se, .string y.ho, .int .i64 y.st, .int .i64 y.du, .string y.no]) opAt8 (by kernel_rfl) (by kernel_rfl) (by kernel_rfl) (fun _ _ _ h => h) (yieldsIf_load_mid (by rfl) 24 _ (by rfl) g2 (o2 + i * 8) (by rfl) y.cells _ (fun w hS => hS) Try.underlying24 rfl info24) hHeld ?_
          (try simp only [Act.put]); (try simp only [List.setIfInBounds_toArray]); (try simp only [List.set_cons_succ]); (try simp only [List.set_cons_zero])
          refine wpAnyH_take (i := 11) (v := ?_) opAt11 (by kernel_rfl) (by kernel_rfl) (by kernel_rfl) (fun _ _ _ h => h) (Or.inl ⟨by rfl, ?_⟩) hHeld ?_
          case refine_2 => (intro w hSw; (try dsimp only at hSw); go_simp; all_goals (with_reducible rfl))
          (try simp only [Act.put]); (try simp only [List.setIfInBounds_toArray]); (try simp only [List.set_cons_succ]); (try simp only [List.set_cons_zero])
          refine wpAnyH_take (i := 12) (v := ?_) opAt12 (by kernel_rfl) (by kernel_rfl) (by kernel_rfl) (fun _ _ _ h => h) (Or.inl ⟨by rfl, ?_⟩) hHeld ?_
          case refine_2 => (intro w hSw; (try dsimp only at hSw); go_simp; all_goals (with_reducible rfl))
          (try simp only [Act.put]); (try simp only [List.setIfInBounds_toArray]); (try simp only [List.set_cons_succ]); (try simp only [List.set_cons_zero])
          refine wpAnyH_take (i := 13) (v := ?_) opAt13 (by kernel_rfl) (by kernel_rfl) (by kernel_rfl) (fun _ _ _ h => h) (Or.inl ⟨by rfl, ?_⟩) hHeld ?_
          case refine_2 => (intro w hSw; (try dsimp only at hSw); go_simp; all_goals (with_reducible rfl))
          (try simp only [Act.put]); (try simp only [List.setIfInBounds_toArray]); (try simp only [List.set_cons_succ]); (try simp only [List.set_cons_zero])
          refine wpAnyH_gen (fun V => Kept (fun _ => False) wr V ∧ V.rangeAt g2 (o2 + i * 8) y.cells) ⟨⟨rfl, rfl, rfl, Nat.le_refl _, fun _ _ _ => rfl⟩, ry⟩ ?_
          rintro V0 ⟨k0', hHeld⟩
          have K0 := Lib.hid k0'
          clear k0'
          refine wpAnyH_ready (rs := [0, 9]) (by kernel_rfl) (by simp) ?_
          refine AllReadyH.cons opAt0 (fun K hK => ?_) ?_
          · go_simp
            have ho := World.ownsRow_made V0 #[] 0 (Nat.le_trans B0.out K0.out.size) (by unfold maxLen; omega) (by rfl) (e := 24) (size := 8) (base := b0)
            have hk := (Kept.refl (fun _ => False) V0).alloc (.cells #[] 24)
            have ge := K0.out.size
            have lt_ : V0.heap.size < (V0.alloc (.cells #[] 24)).heap.size := by simp
            generalize hV : V0.alloc (.cells #[] 24) = V1 at ho hk lt_ ⊢
            generalize he : V0.heap.size = e0 at ho ge lt_ ⊢
            have E := Lib.hid ho
            have EG := Lib.hid ge
            have ELT := Lib.hid lt_
            have K1 := Lib.hid (keptFF K0.out hk)
            clear ho hk ge lt_ hV he
            refine hK.out _ _ ?_ (fun hHeld => ?_)
            · exact fun j u hu => K1.out.cell (ry j u hu) (fun f => f)
            clear hK K
            (try simp only [Act.put]); (try simp only [List.setIfInBounds_toArray]); (try simp only [List.set_cons_succ]); (try simp only [List.set_cons_zero])
            refine wpAnyH_ready (rs := [4, 9]) (by kernel_rfl) (by simp) ?_
            refine AllReadyH.cons opAt4 (fun K hK => ?_) ?_
            · refine step_appG (by rfl) _ _ 22 (by rfl) b0 24 i24 _ 8 88 Try.underlying22 hi24 z24 s24 b24 (by rfl) (by decide) _ 0 [] (by rfl) E.out k (cellsS (R.take k)) X1 (by rfl) (SRC1.out.kept K1.out) (by rw [cellsS_length, List.length_take, Nat.min_eq_left (by rw [HNL.out]; omega)]) (cellsS_one _) (by unfold maxLen; omega) (by omega) (Nat.le_trans B0.out K1.out.size) ?_
              intro ao1 cap1 V2 hown hk hat
              rw [Nat.zero_add, List.nil_append] at hown
              rw [Nat.zero_add] at hat ⊢
              have A1 := Lib.hid hown
              have A1L := Lib.hid (show ∀ q, (Value.slice ao1 k cap1).ownBlock = some q → q < V2.heap.size from fun q hq => (own_lt hown hq).2)
              have A1G := Lib.hid (show ∀ q, (Value.slice ao1 k cap1).ownBlock = some q → wr.heap.size ≤ q from fun q hq => hat.elim (fun h => by rw [h] at hq; cases hq; exact EG.out) (fun h => by rw [h] at hq; cases hq; exact K1.out.size))
              have K2 := Lib.hid (K1.out.trans hk (fun _ _ f => f) (fun q h1 h2 => by cases h2; have h3 := EG.out; have h4 : e0 < wr.heap.size := h1; omega) : Kept (fun _ => False) wr V2)
              clear hown hk hat
              refine hK.out _ _ ?_ (fun hHeld => ?_)
              · exact fun j u hu => K2.out.cell (ry j u hu) (fun f => f)
              clear hK K
              (try simp only [Act.put]); (try simp only [List.setIfInBounds_toArray]); (try simp only [List.set_cons_succ]); (try simp only [List.set_cons_zero])
              refine wpAnyH_ready (rs := [9]) (by kernel_rfl) (by simp) ?_
              refine AllReadyH.cons opAt9 (fun K hK => ?_) AllReadyH.nil
              go_simp
              have hn := World.news_of_block (heap_alloc_new V2 (.cells #[.int .i64 y.tr, .int .i64 y.id, .int .i64 y.pa, .string y.se, .string y.ho, .int .i64 y.st, .int .i64 y.du, .string y.no] 24))
              have hk := (Kept.refl (fun _ => False) V2).alloc (.cells #[.int .i64 y.tr, .int .i64 y.id, .int .i64 y.pa, .string y.se, .string y.ho, .int .i64 y.st, .int .i64 y.du, .string y.no] 24)
              have ge := K2.out.size
              have lt_ : V2.heap.size < (V2.alloc (.cells #[.int .i64 y.tr, .int .i64 y.id, .int .i64 y.pa, .string y.se, .string y.ho, .int .i64 y.st, .int .i64 y.du, .string y.no] 24)).heap.size := by simp
              generalize hV : V2.alloc (.cells #[.int .i64 y.tr, .int .i64 y.id, .int .i64 y.pa, .string y.se, .string y.ho, .int .i64 y.st, .int .i64 y.du, .string y.no] 24) = V3 at hn hk lt_ ⊢
              generalize he : V2.heap.size = sb at hn ge lt_ ⊢
              have SG := Lib.hid (show ∀ j u, y.cells[j]? = some u → _ from fun j u hu => hn j u hu)
              have SLT := Lib.hid lt_
              have K3 := Lib.hid (keptFF K2.out hk)
              have A1 := Lib.hid (own_keptS A1.out hk (fun _ _ f => f))
              have SN1 := Lib.hid (show ∀ q, (Value.slice ao1 k cap1).ownBlock = some q → q ≠ sb from fun q hq => by have h1 := A1L.out q hq; omega)
              clear hn hk ge lt_ hV he
              refine hK.out _ _ ?_ (fun hHeld => ?_)
              · exact fun j u hu => K3.out.cell (ry j u hu) (fun f => f)
              clear hK K
              (try simp only [Act.put]); (try simp only [List.setIfInBounds_toArray]); (try simp only [List.set_cons_succ]); (try simp only [List.set_cons_zero])
              refine wpAnyH_ready (rs := [10]) (by kernel_rfl) (by simp) ?_
              refine AllReadyH.cons opAt10 (fun K hK => ?_) AllReadyH.nil
              refine step_appG (by rfl) _ _ 22 (by rfl) b0 24 i24 _ 8 88 Try.underlying22 hi24 z24 s24 b24 (by rfl) (by decide) _ k _ (by rfl) A1.out 1 y.cells (.slice (some ⟨sb, 0, none⟩) 1 1) (by rfl) ⟨_, _, rfl, .inr ⟨⟨sb, 0, none⟩, rfl, SG.out⟩⟩ (by rfl) (fun u hu => by simp [Spn.cells] at hu; rcases hu with rfl | rfl | rfl | rfl | rfl | rfl | rfl | rfl <;> rfl) (by unfold maxLen; omega) (by omega) (Nat.le_trans B0.out K3.out.size) ?_
              intro ao2 cap2 V4 hown hk hat
              have A2 := Lib.hid hown
              have A2G := Lib.hid (show ∀ q, (Value.slice ao2 (k + 1) cap2).ownBlock = some q → wr.heap.size ≤ q from fun q hq => hat.elim (fun h => by rw [h] at hq; exact A1G.out q hq) (fun h => by rw [h] at hq; cases hq; exact K3.out.size))
              have K4 := Lib.hid (K3.out.trans hk (fun _ _ f => f) (fun q h1 h2 => by have h3 := A1G.out q h2; omega) : Kept (fun _ => False) wr V4)
              clear hown hk hat
              refine hK.out _ _ ?_ (fun hHeld => ?_)
              · exact fun j u hu => K4.out.cell (ry j u hu) (fun f => f)
              clear hK K
              (try simp only [Act.put]); (try simp only [List.setIfInBounds_toArray]); (try simp only [List.set_cons_succ]); (try simp only [List.set_cons_zero])
              refine wpAnyH_ready (rs := [14]) (by kernel_rfl) (by simp) ?_
              refine AllReadyH.cons opAt14 (fun K hK => ?_) AllReadyH.nil
              refine step_appG (by rfl) _ _ 22 (by rfl) b0 24 i24 _ 8 88 Try.underlying22 hi24 z24 s24 b24 (by rfl) (by decide) _ (k + 1) _ (by rfl) A2.out (n - k) (cellsS (R.drop k)) X2 (by rfl) (SRC2.out.kept K4.out) (by rw [cellsS_length, List.length_drop, HNL.out]) (cellsS_one _) (by unfold maxLen; omega) (by omega) (Nat.le_trans B0.out K4.out.size) ?_
              intro ao3 cap3 V5 hown hk hat
              have A3 := Lib.hid hown
              have K5 := Lib.hid (K4.out.trans hk (fun _ _ f => f) (fun q h1 h2 => by have h3 := A2G.out q h2; omega) : Kept (fun _ => False) wr V5)
              clear hown hk hat
              refine hK.out _ _ ?_ (fun hHeld => ?_)
              · exact fun j u hu => K5.out.cell (ry j u hu) (fun f => f)
              clear hK K
              (try simp only [Act.put]); (try simp only [List.setIfInBounds_toArray]); (try simp only [List.set_cons_succ]); (try simp only [List.set_cons_zero])
              refine wpAnyH_take (i := 15) (v := ?_) opAt15 (by kernel_rfl) (by kernel_rfl) (by kernel_rfl) (fun _ _ _ h => h) (Or.inl ⟨by rfl, ?_⟩) hHeld ?_
              case refine_2 => (intro w hSw; (try dsimp only at hSw); go_simp; all_goals (with_reducible rfl))
              (try simp only [Act.put]); (try simp only [List.setIfInBounds_toArray]); (try simp only [List.set_cons_succ]); (try simp only [List.set_cons_zero])
              refine wpAnyH_done (by kernel_rfl) ?_ _
              go_wp2
              go_roundg (m - (i + 1))
              case measure => have := G1.out; omega
              case rel => exact ⟨i + 1, _, _, k + 1 + (n - k), by omega, by go_num, rfl, by rw [INS.out]; simp [HNL.out]; omega, by rw [INS.out, cellsS_append, cellsS, ← List.append_assoc]; exact A3.out, keptFF KK.out K5.out⟩
            refine AllReadyH.cons opAt9 (fun K hK => ?_) AllReadyH.nil
            go_simp
            have hn := World.news_of_block (heap_alloc_new V1 (.cells #[.int .i64 y.tr, .int .i64 y.id, .int .i64 y.pa, .string y.se, .string y.ho, .int .i64 y.st, .int .i64 y.du, .string y.no] 24))
            have hk := (Kept.refl (fun _ => False) V1).alloc (.cells #[.int .i64 y.tr, .int .i64 y.id, .int .i64 y.pa, .string y.se, .string y.ho, .int .i64 y.st, .int .i64 y.du, .string y.no] 24)
            have ge := K1.out.size
            have lt_ : V1.heap.size < (V1.alloc (.cells #[.int .i64 y.tr, .int .i64 y.id, .int .i64 y.pa, .string y.se, .string y.ho, .int .i64 y.st, .int .i64 y.du, .string y.no] 24)).heap.size := by simp
            generalize hV : V1.alloc (.cells #[.int .i64 y.tr, .int .i64 y.id, .int .i64 y.pa, .string y.se, .string y.ho, .int .i64 y.st, .int .i64 y.du, .string y.no] 24) = V2 at hn hk lt_ ⊢
            generalize he : V1.heap.size = sb at hn ge lt_ ⊢
            have SG := Lib.hid (show ∀ j u, y.cells[j]? = some u → _ from fun j u hu => hn j u hu)
            have SLT := Lib.hid lt_
            have K2 := Lib.hid (keptFF K1.out hk)
            have E := Lib.hid (own_keptS E.out hk (fun _ _ f => f))
            have SNE := Lib.hid (show sb ≠ e0 from by have h1 := ELT.out; omega)
            clear hn hk ge lt_ hV he
            refine hK.out _ _ ?_ (fun hHeld => ?_)
            · exact fun j u hu => K2.out.cell (ry j u hu) (fun f => f)
            clear hK K
            (try simp only [Act.put]); (try simp only [List.setIfInBounds_toArray]); (try simp only [List.set_cons_succ]); (try simp only [List.set_cons_zero])
            refine wpAnyH_ready (rs := [4]) (by kernel_rfl) (by simp) ?_
            refine AllReadyH.cons opAt4 (fun K hK => ?_) AllReadyH.nil
            refine step_appG (by rfl) _ _ 22 (by rfl) b0 24 i24 _ 8 88 Try.underlying22 hi24 z24 s24 b24 (by rfl) (by decide) _ 0 [] (by rfl) E.out k (cellsS (R.take k)) X1 (by rfl) (SRC1.out.kept K2.out) (by rw [cellsS_length, List.length_take, Nat.min_eq_left (by rw [HNL.out]; omega)]) (cellsS_one _) (by unfold maxLen; omega) (by omega) (Nat.le_trans B0.out K2.out.size) ?_
            intro ao1 cap1 V3 hown hk hat
            rw [Nat.zero_add, List.nil_append] at hown
            rw [Nat.zero_add] at hat ⊢
            have A1 := Lib.hid hown
            have A1L := Lib.hid (show ∀ q, (Value.slice ao1 k cap1).ownBlock = some q → q < V3.heap.size from fun q hq => (own_lt hown hq).2)
            have A1G := Lib.hid (show ∀ q, (Value.slice ao1 k cap1).ownBlock = some q → wr.heap.size ≤ q from fun q hq => hat.elim (fun h => by rw [h] at hq; cases hq; exact EG.out) (fun h => by rw [h] at hq; cases hq; exact K2.out.size))
            have K3 := Lib.hid (K2.out.trans hk (fun _ _ f => f) (fun q h1 h2 => by cases h2; have h3 := EG.out; have h4 : e0 < wr.heap.size := h1; omega) : Kept (fun _ => False) wr V3)
            have SG := Lib.hid (show ∀ j u, y.cells[j]? = some u → V3.cell? ((⟨sb, 0, none⟩ : Addr).add j) = some u from fun j u hu => hk.cell (SG.out j u hu) (fun h => by cases h; have h3 := SNE.out; simp [add_mid] at h3))
            have SN1 := Lib.hid (show ∀ q, (Value.slice ao1 k cap1).ownBlock = some q → q ≠ sb from fun q hq => hat.elim (fun h => by rw [h] at hq; cases hq; exact fun e => SNE.out e.symm) (fun h => by rw [h] at hq; cases hq; have h1 := SLT.out; omega))
            clear hown hk hat
            refine hK.out _ _ ?_ (fun hHeld => ?_)
            · exact fun j u hu => K3.out.cell (ry j u hu) (fun f => f)
            clear hK K
            (try simp only [Act.put]); (try simp only [List.setIfInBounds_toArray]); (try simp only [List.set_cons_succ]); (try simp only [List.set_cons_zero])
            refine wpAnyH_ready (rs := [10]) (by kernel_rfl) (by simp) ?_
            refine AllReadyH.cons opAt10 (fun K hK => ?_) AllReadyH.nil
            refine step_appG (by rfl) _ _ 22 (by rfl) b0 24 i24 _ 8 88 Try.underlying22 hi24 z24 s24 b24 (by rfl) (by decide) _ k _ (by rfl) A1.out 1 y.cells (.slice (some ⟨sb, 0, none⟩) 1 1) (by rfl) ⟨_, _, rfl, .inr ⟨⟨sb, 0, none⟩, rfl, SG.out⟩⟩ (by rfl) (fun u hu => by simp [Spn.cells] at hu; rcases hu with rfl | rfl | rfl | rfl | rfl | rfl | rfl | rfl <;> rfl) (by unfold maxLen; omega) (by omega) (Nat.le_trans B0.out K3.out.size) ?_
            intro ao2 cap2 V4 hown hk hat
            have A2 := Lib.hid hown
            have A2G := Lib.hid (show ∀ q, (Value.slice ao2 (k + 1) cap2).ownBlock = some q → wr.heap.size ≤ q from fun q hq => hat.elim (fun h => by rw [h] at hq; exact A1G.out q hq) (fun h => by rw [h] at hq; cases hq; exact K3.out.size))
            have K4 := Lib.hid (K3.out.trans hk (fun _ _ f => f) (fun q h1 h2 => by have h3 := A1G.out q h2; omega) : Kept (fun _ => False) wr V4)
            clear hown hk hat
            refine hK.out _ _ ?_ (fun hHeld => ?_)
            · exact fun j u hu => K4.out.cell (ry j u hu) (fun f => f)
            clear hK K
            (try simp only [Act.put]); (try simp only [List.setIfInBounds_toArray]); (try simp only [List.set_cons_succ]); (try simp only [List.set_cons_zero])
            refine wpAnyH_ready (rs := [14]) (by kernel_rfl) (by simp) ?_
            refine AllReadyH.cons opAt14 (fun K hK => ?_) AllReadyH.nil
            refine step_appG (by rfl) _ _ 22 (by rfl) b0 24 i24 _ 8 88 Try.underlying22 hi24 z24 s24 b24 (by rfl) (by decide) _ (k + 1) _ (by rfl) A2.out (n - k) (cellsS (R.drop k)) X2 (by rfl) (SRC2.out.kept K4.out) (by rw [cellsS_length, List.length_drop, HNL.out]) (cellsS_one _) (by unfold maxLen; omega) (by omega) (Nat.le_trans B0.out K4.out.size) ?_
            intro ao3 cap3 V5 hown hk hat
            have A3 := Lib.hid hown
            have K5 := Lib.hid (K4.out.trans hk (fun _ _ f => f) (fun q h1 h2 => by have h3 := A2G.out q h2; omega) : Kept (fun _ => False) wr V5)
            clear hown hk hat
            refine hK.out _ _ ?_ (fun hHeld => ?_)
            · exact fun j u hu => K5.out.cell (ry j u hu) (fun f => f)
            clear hK K
            (try simp only [Act.put]); (try simp only [List.setIfInBounds_toArray]); (try simp only [List.set_cons_succ]); (try simp only [List.set_cons_zero])
            refine wpAnyH_take (i := 15) (v := ?_) opAt15 (by kernel_rfl) (by kernel_rfl) (by kernel_rfl) (fun _ _ _ h => h) (Or.inl ⟨by rfl, ?_⟩) hHeld ?_
            case refine_2 => (intro w hSw; (try dsimp only at hSw); go_simp; all_goals (with_reducible rfl))
            (try simp only [Act.put]); (try simp only [List.setIfInBounds_toArray]); (try simp only [List.set_cons_succ]); (try simp only [List.set_cons_zero])
            refine wpAnyH_done (by kernel_rfl) ?_ _
            go_wp2
            go_roundg (m - (i + 1))
            case measure => have := G1.out; omega
            case rel => exact ⟨i + 1, _, _, k + 1 + (n - k), by omega, by go_num, rfl, by rw [INS.out]; simp [HNL.out]; omega, by rw [INS.out, cellsS_append, cellsS, ← List.append_assoc]; exact A3.out, keptFF KK.out K5.out⟩
          refine AllReadyH.cons opAt9 (fun K hK => ?_) AllReadyH.nil
          go_simp
          have hn := World.news_of_block (heap_alloc_new V0 (.cells #[.int .i64 y.tr, .int .i64 y.id, .int .i64 y.pa, .string y.se, .string y.ho, .int .i64 y.st, .int .i64 y.du, .string y.no] 24))
          have hk := (Kept.refl (fun _ => False) V0).alloc (.cells #[.int .i64 y.tr, .int .i64 y.id, .int .i64 y.pa, .string y.se, .string y.ho, .int .i64 y.st, .int .i64 y.du, .string y.no] 24)
          have ge := K0.out.size
          have lt_ : V0.heap.size < (V0.alloc (.cells #[.int .i64 y.tr, .int .i64 y.id, .int .i64 y.pa, .string y.se, .string y.ho, .int .i64 y.st, .int .i64 y.du, .string y.no] 24)).heap.size := by simp
          generalize hV : V0.alloc (.cells #[.int .i64 y.tr, .int .i64 y.id, .int .i64 y.pa, .string y.se, .string y.ho, .int .i64 y.st, .int .i64 y.du, .string y.no] 24) = V1 at hn hk lt_ ⊢
          generalize he : V0.heap.size = sb at hn ge lt_ ⊢
          have SG := Lib.hid (show ∀ j u, y.cells[j]? = some u → _ from fun j u hu => hn j u hu)
          have SLT := Lib.hid lt_
          have K1 := Lib.hid (keptFF K0.out hk)
          clear hn hk ge lt_ hV he
          refine hK.out _ _ ?_ (fun hHeld => ?_)
          · exact fun j u hu => K1.out.cell (ry j u hu) (fun f => f)
          clear hK K
          (try simp only [Act.put]); (try simp only [List.setIfInBounds_toArray]); (try simp only [List.set_cons_succ]); (try simp only [List.set_cons_zero])
          refine wpAnyH_ready (rs := [0]) (by kernel_rfl) (by simp) ?_
          refine AllReadyH.cons opAt0 (fun K hK => ?_) AllReadyH.nil
          go_simp
          have ho := World.ownsRow_made V1 #[] 0 (Nat.le_trans B0.out K1.out.size) (by unfold maxLen; omega) (by rfl) (e := 24) (size := 8) (base := b0)
          have hk := (Kept.refl (fun _ => False) V1).alloc (.cells #[] 24)
          have ge := K1.out.size
          have lt_ : V1.heap.size < (V1.alloc (.cells #[] 24)).heap.size := by simp
          have SNEp := Lib.hid (show sb ≠ V1.heap.size from by have h1 := SLT.out; omega)
          generalize hV : V1.alloc (.cells #[] 24) = V2 at ho hk lt_ ⊢
          generalize he : V1.heap.size = e0 at ho ge lt_ SNEp ⊢
          have E := Lib.hid ho
          have EG := Lib.hid ge
          have ELT := Lib.hid lt_
          have K2 := Lib.hid (keptFF K1.out hk)
          have SG := Lib.hid (show ∀ j u, y.cells[j]? = some u → V2.cell? ((⟨sb, 0, none⟩ : Addr).add j) = some u from fun j u hu => hk.cell (SG.out j u hu) (fun f => f))
          have SNE := SNEp
          have SLT := Lib.hid (show sb < V2.heap.size from by have h1 := SLT.out; have h2 := hk.size; omega)
          clear ho hk ge lt_ hV he
          refine hK.out _ _ ?_ (fun hHeld => ?_)
          · exact fun j u hu => K2.out.cell (ry j u hu) (fun f => f)
          clear hK K
          (try simp only [Act.put]); (try simp only [List.setIfInBounds_toArray]); (try simp only [List.set_cons_succ]); (try simp only [List.set_cons_zero])
          refine wpAnyH_ready (rs := [4]) (by kernel_rfl) (by simp) ?_
          refine AllReadyH.cons opAt4 (fun K hK => ?_) AllReadyH.nil
          refine step_appG (by rfl) _ _ 22 (by rfl) b0 24 i24 _ 8 88 Try.underlying22 hi24 z24 s24 b24 (by rfl) (by decide) _ 0 [] (by rfl) E.out k (cellsS (R.take k)) X1 (by rfl) (SRC1.out.kept K2.out) (by rw [cellsS_length, List.length_take, Nat.min_eq_left (by rw [HNL.out]; omega)]) (cellsS_one _) (by unfold maxLen; omega) (by omega) (Nat.le_trans B0.out K2.out.size) ?_
          intro ao1 cap1 V3 hown hk hat
          rw [Nat.zero_add, List.nil_append] at hown
          rw [Nat.zero_add] at hat ⊢
          have A1 := Lib.hid hown
          have A1L := Lib.hid (show ∀ q, (Value.slice ao1 k cap1).ownBlock = some q → q < V3.heap.size from fun q hq => (own_lt hown hq).2)
          have A1G := Lib.hid (show ∀ q, (Value.slice ao1 k cap1).ownBlock = some q → wr.heap.size ≤ q from fun q hq => hat.elim (fun h => by rw [h] at hq; cases hq; exact EG.out) (fun h => by rw [h] at hq; cases hq; exact K2.out.size))
          have K3 := Lib.hid (K2.out.trans hk (fun _ _ f => f) (fun q h1 h2 => by cases h2; have h3 := EG.out; have h4 : e0 < wr.heap.size := h1; omega) : Kept (fun _ => False) wr V3)
          have SG := Lib.hid (show ∀ j u, y.cells[j]? = some u → V3.cell? ((⟨sb, 0, none⟩ : Addr).add j) = some u from fun j u hu => hk.cell (SG.out j u hu) (fun h => by cases h; have h3 := SNE.out; simp [add_mid] at h3))
          have SN1 := Lib.hid (show ∀ q, (Value.slice ao1 k cap1).ownBlock = some q → q ≠ sb from fun q hq => hat.elim (fun h => by rw [h] at hq; cases hq; exact fun e => SNE.out e.symm) (fun h => by rw [h] at hq; cases hq; have h1 := SLT.out; omega))
          clear hown hk hat
          refine hK.out _ _ ?_ (fun hHeld => ?_)
          · exact fun j u hu => K3.out.cell (ry j u hu) (fun f => f)
          clear hK K
          (try simp only [Act.put]); (try simp only [List.setIfInBounds_toArray]); (try simp only [List.set_cons_succ]); (try simp only [List.set_cons_zero])
          refine wpAnyH_ready (rs := [10]) (by kernel_rfl) (by simp) ?_
          refine AllReadyH.cons opAt10 (fun K hK => ?_) AllReadyH.nil
          refine step_appG (by rfl) _ _ 22 (by rfl) b0 24 i24 _ 8 88 Try.underlying22 hi24 z24 s24 b24 (by rfl) (by decide) _ k _ (by rfl) A1.out 1 y.cells (.slice (some ⟨sb, 0, none⟩) 1 1) (by rfl) ⟨_, _, rfl, .inr ⟨⟨sb, 0, none⟩, rfl, SG.out⟩⟩ (by rfl) (fun u hu => by simp [Spn.cells] at hu; rcases hu with rfl | rfl | rfl | rfl | rfl | rfl | rfl | rfl <;> rfl) (by unfold maxLen; omega) (by omega) (Nat.le_trans B0.out K3.out.size) ?_
          intro ao2 cap2 V4 hown hk hat
          have A2 := Lib.hid hown
          have A2G := Lib.hid (show ∀ q, (Value.slice ao2 (k + 1) cap2).ownBlock = some q → wr.heap.size ≤ q from fun q hq => hat.elim (fun h => by rw [h] at hq; exact A1G.out q hq) (fun h => by rw [h] at hq; cases hq; exact K3.out.size))
          have K4 := Lib.hid (K3.out.trans hk (fun _ _ f => f) (fun q h1 h2 => by have h3 := A1G.out q h2; omega) : Kept (fun _ => False) wr V4)
          clear hown hk hat
          refine hK.out _ _ ?_ (fun hHeld => ?_)
          · exact fun j u hu => K4.out.cell (ry j u hu) (fun f => f)
          clear hK K
          (try simp only [Act.put]); (try simp only [List.setIfInBounds_toArray]); (try simp only [List.set_cons_succ]); (try simp only [List.set_cons_zero])
          refine wpAnyH_ready (rs := [14]) (by kernel_rfl) (by simp) ?_
          refine AllReadyH.cons opAt14 (fun K hK => ?_) AllReadyH.nil
          refine step_appG (by rfl) _ _ 22 (by rfl) b0 24 i24 _ 8 88 Try.underlying22 hi24 z24 s24 b24 (by rfl) (by decide) _ (k + 1) _ (by rfl) A2.out (n - k) (cellsS (R.drop k)) X2 (by rfl) (SRC2.out.kept K4.out) (by rw [cellsS_length, List.length_drop, HNL.out]) (cellsS_one _) (by unfold maxLen; omega) (by omega) (Nat.le_trans B0.out K4.out.size) ?_
          intro ao3 cap3 V5 hown hk hat
          have A3 := Lib.hid hown
          have K5 := Lib.hid (K4.out.trans hk (fun _ _ f => f) (fun q h1 h2 => by have h3 := A2G.out q h2; omega) : Kept (fun _ => False) wr V5)
          clear hown hk hat
          refine hK.out _ _ ?_ (fun hHeld => ?_)
          · exact fun j u hu => K5.out.cell (ry j u hu) (fun f => f)
          clear hK K
          (try simp only [Act.put]); (try simp only [List.setIfInBounds_toArray]); (try simp only [List.set_cons_succ]); (try simp only [List.set_cons_zero])
          refine wpAnyH_take (i := 15) (v := ?_) opAt15 (by kernel_rfl) (by kernel_rfl) (by kernel_rfl) (fun _ _ _ h => h) (Or.inl ⟨by rfl, ?_⟩) hHeld ?_
          case refine_2 => (intro w hSw; (try dsimp only at hSw); go_simp; all_goals (with_reducible rfl))
          (try simp only [Act.put]); (try simp only [List.setIfInBounds_toArray]); (try simp only [List.set_cons_succ]); (try simp only [List.set_cons_zero])
          refine wpAnyH_done (by kernel_rfl) ?_ _
          go_wp2
          go_roundg (m - (i + 1))
          case measure => have := G1.out; omega
          case rel => exact ⟨i + 1, _, _, k + 1 + (n - k), by omega, by go_num, rfl, by rw [INS.out]; simp [HNL.out]; omega, by rw [INS.out, cellsS_append, cellsS, ← List.append_assoc]; exact A3.out, keptFF KK.out K5.out⟩
    · have i0 : ¬ (i : Int) < (m : Int) := by omega
      go_wp2
      go_ret
      have E1 : i = m := by have := G1.out; omega
      have hc : cntN L i = cntF L := by rw [cntF, HM.out, E1]
      refine ⟨.slice la n cap, rfl, ?_, KKr.out⟩
      rw [← hc]
      rcases row_form ROWr.out with ⟨q1, q2⟩ | ⟨g, c, q1, _, _, _, hc⟩
      · exact ⟨la, cap, by rw [HNLr.out], .inl (List.eq_nil_of_length_eq_zero (by rw [HNLr.out]; exact q2))⟩
      · cases q1
        exact ⟨_, cap, by rw [HNLr.out], .inr ⟨g, 0, rfl, fun j u hu => by rw [Nat.zero_add]; exact hc j u hu⟩⟩
end Go.Proofs.Ytjidldbolbjdpaa
