/- slices.swapRangeCmpFunc over spans. -/
import Derived.Test.YtjidldbolbjdpaaInsert
namespace Go.Proofs.Ytjidldbolbjdpaa
open Go.RowKit

/-- The ones from a + k on change places with those from b + k on, as long as k < m. -/
def srF (a b m k : Nat) (L : List Spn) : List Spn := if _h : k < m then srF a b m (k + 1) (swapL L (a + k) (b + k)) else L
termination_by m - k
decreasing_by omega
theorem srF_length (a b m : Nat) : ∀ (n k : Nat) (L : List Spn), m - k = n → (srF a b m k L).length = L.length
  | 0, k, L, h => by unfold srF; rw [dif_neg (by omega)]
  | n + 1, k, L, h => by unfold srF; rw [dif_pos (by omega), srF_length a b m n (k + 1) _ (by omega)]; simp
set_option maxHeartbeats 8000000 in
set_option maxRecDepth 100000 in
theorem swaprange_any {w : World} {base g n cap : Nat} {L : List Spn} (f : Value) (a b m : Nat) (ho : w.ownsRow base 24 8 (.slice (some ⟨g, 0, none⟩) n cap) n (cellsS L)) (hl : L.length = n) (ha : a + m ≤ n) (hb : b + m ≤ n) (hn : n ≤ 1000) :
    Calls Try.prog 54 #[.slice (some ⟨g, 0, none⟩) n cap, .int .i64 a, .int .i64 b, .int .i64 m, f] w fun e w' => e = .returned (.tuple #[]) ∧ w'.ownsRow base 24 8 (.slice (some ⟨g, 0, none⟩) n cap) n (cellsS (srF a b m 0 L)) ∧ Kept (fun k => k = g) w w' := by
  have HO0 := Lib.hid ho
  clear ho
  go_enter Try.func54, Try.ntmps54
  go_wp2
  go_loopg [10] m (fun gh t wr => ∃ (k : Nat) (L1 : List Spn), k + gh = m ∧ t = .int .i64 k ∧ L1.length = n ∧ wr.ownsRow base 24 8 (.slice (some ⟨g, 0, none⟩) n cap) n (cellsS L1) ∧ srF a b m k L1 = srF a b m 0 L ∧ Kept (fun k => k = g) w wr)
  case atStart => exact ⟨0, L, by omega, rfl, hl, HO0.out, rfl, Kept.refl _ _⟩
  case round =>
    obtain ⟨k, L1, hk, rfl, hl1, ho1, ht1, k1⟩ := hrel
    have HO1 := Lib.hid ho1; have HT1 := Lib.hid ht1; have K1 := Lib.hid k1
    clear ho1 ht1 k1
    by_cases hkm : k < m
    · have e0 : (k : Int) < (m : Int) := by omega
      have hstep : srF a b m k L1 = srF a b m (k + 1) (swapL L1 (a + k) (b + k)) := by rw [srF, dif_pos hkm]
      obtain ⟨p, hp⟩ : ∃ p, a + k = p := ⟨_, rfl⟩
      obtain ⟨q, hq⟩ : ∃ q, b + k = q := ⟨_, rfl⟩
      rw [hp, hq] at hstep
      have ST := Lib.hid hstep
      have hjl : p < L1.length := by omega
      have hql : q < L1.length := by omega
      obtain ⟨x, hx⟩ : ∃ x, nth L1 p = x := ⟨_, rfl⟩
      obtain ⟨y, hy⟩ : ∃ y, nth L1 q = y := ⟨_, rfl⟩
      have gx := nth_get hjl; have gy := nth_get hql
      rw [hx] at gx; rw [hy] at gy
      have GX := Lib.hid gx; have GY := Lib.hid gy; have HX := Lib.hid hx; have HY := Lib.hid hy
      have i1 : (0 : Int) ≤ (p : Int) := by omega
      have i2 : (p : Int) < (n : Int) := by omega
      have i3 : (0 : Int) ≤ (q : Int) := by omega
      have i4 : (q : Int) < (n : Int) := by omega
      have e3 : IntKind.i64.wrap ((a : Int) + (k : Int)) = (p : Int) := by rw [show (a : Int) + (k : Int) = (p : Int) by omega]; exact IntWalk.i64_in _ (by omega)
      have e4 : IntKind.i64.wrap ((b : Int) + (k : Int)) = (q : Int) := by rw [show (b : Int) + (k : Int) = (q : Int) by omega]; exact IntWalk.i64_in _ (by omega)
      clear hstep gx gy hx hy hp hq
      have HO := Lib.hid ((HO1.out).drew)
      have rx := own_range HO.out GX.out
      have ry := own_range HO.out GY.out
      have HO2 := Lib.hid (own_set HO.out y hjl)
      have FO := Lib.hid (show ((wr.drew.setCells g (p * 8) y.cells).setCells g (q * 8) x.cells).ownsRow base 24 8 (.slice (some ⟨g, 0, none⟩) n cap) n (cellsS (swapL L1 p q)) from by
        have h := own_set HO2.out x (i := q) (by simpa using hql)
        unfold swapL
        rw [HX.out, HY.out]
        exact h)
      have KF6 := Lib.hid (Kept.setCells (S := fun k => k = g) (fun _ => rfl) x.cells (q * 8) (Kept.setCells (S := fun k => k = g) (fun _ => rfl) y.cells (p * 8) ((K1.out).drew)))
      go_wp2
      refine wp_region_any (by kernel_rfl) ?_
      simp only [List.size_toArray, List.length_cons, List.length_nil, Nat.zero_add, Nat.reduceAdd]
      refine wpAny_take (i := 0) (v := ?_) opAt0 (by kernel_rfl) (by kernel_rfl) (by kernel_rfl) (fun _ _ _ h => h) (Or.inl ⟨by rfl, ?_⟩) ?_
      case refine_2 => (intro w; go_simp; all_goals (with_reducible rfl))
      (try simp only [Act.put]); (try simp only [List.setIfInBounds_toArray]); (try simp only [List.set_cons_succ]); (try simp only [List.set_cons_zero])
      refine wpAny_take (i := 1) (v := ?_) opAt1 (by kernel_rfl) (by kernel_rfl) (by kernel_rfl) (fun _ _ _ h => h) (Or.inl ⟨by rfl, ?_⟩) ?_
      case refine_2 => (intro w; go_simp; all_goals (with_reducible rfl))
      (try simp only [Act.put]); (try simp only [List.setIfInBounds_toArray]); (try simp only [List.set_cons_succ]); (try simp only [List.set_cons_zero])
      refine wpAny_take (i := 2) (v := ?_) opAt2 (by kernel_rfl) (by kernel_rfl) (by kernel_rfl) (fun _ _ _ h => h) (Or.inl ⟨by rfl, ?_⟩) ?_
      case refine_2 => (intro w; go_simp; all_goals (with_reducible rfl))
      (try simp only [Act.put]); (try simp only [List.setIfInBounds_toArray]); (try simp only [List.set_cons_succ]); (try simp only [List.set_cons_zero])
      refine wpAny_take (i := 3) (v := ?_) opAt3 (by kernel_rfl) (by kernel_rfl) (by kernel_rfl) (fun _ _ _ h => h) (Or.inl ⟨by rfl, ?_⟩) ?_
      case refine_2 => (intro w; go_simp; all_goals (with_reducible rfl))
      (try simp only [Act.put]); (try simp only [List.setIfInBounds_toArray]); (try simp only [List.set_cons_succ]); (try simp only [List.set_cons_zero])
      refine wpAny_take (i := 4) (v := ?_) opAt4 (by kernel_rfl) (by kernel_rfl) (by kernel_rfl) (fun _ _ _ h => h) (Or.inl ⟨by rfl, ?_⟩) ?_
      case refine_2 => (intro w; go_simp; all_goals (with_reducible rfl))
      (try simp only [Act.put]); (try simp only [List.setIfInBounds_toArray]); (try simp only [List.set_cons_succ]); (try simp only [List.set_cons_zero])
      refine wpAny_take (i := 5) (v := ?_) opAt5 (by kernel_rfl) (by kernel_rfl) (by kernel_rfl) (fun _ _ _ h => h) (Or.inl ⟨by rfl, ?_⟩) ?_
      case refine_2 => (intro w; go_simp; all_goals (with_reducible rfl))
      (try simp only [Act.put]); (try simp only [List.setIfInBounds_toArray]); (try simp only [List.set_cons_succ]); (try simp only [List.set_cons_zero])
      refine wpAny_take (i := 6) (v := ?_) opAt6 (by kernel_rfl) (by kernel_rfl) (by kernel_rfl) (fun _ _ _ h => h) (Or.inl ⟨by rfl, ?_⟩) ?_
      case refine_2 => (intro w; go_simp; all_goals (with_reducible rfl))
      (try simp only [Act.put]); (try simp only [List.setIfInBounds_toArray]); (try simp only [List.set_cons_succ]); (try simp only [List.set_cons_zero])
      refine wpAny_take (i := 7) (v := ?_) opAt7 (by kernel_rfl) (by kernel_rfl) (by kernel_rfl) (fun _ _ _ h => h) (Or.inl ⟨by rfl, ?_⟩) ?_
      case refine_2 => (intro w; go_simp; all_goals (with_reducible rfl))
      (try simp only [Act.put]); (try simp only [List.setIfInBounds_toArray]); (try simp only [List.set_cons_succ]); (try simp only [List.set_cons_zero])
      refine wpAny_take (i := 8) (v := ?_) opAt8 (by kernel_rfl) (by kernel_rfl) (by kernel_rfl) (fun _ _ _ h => h) (Or.inl ⟨by rfl, ?_⟩) ?_
      case refine_2 => (intro w; go_simp; all_goals (with_reducible rfl))
      (try simp only [Act.put]); (try simp only [List.setIfInBounds_toArray]); (try simp only [List.set_cons_succ]); (try simp only [List.set_cons_zero])
      refine wpAny_take (i := 9) (v := ?_) opAt9 (by kernel_rfl) (by kernel_rfl) (by kernel_rfl) (fun _ _ _ h => h) (Or.inl ⟨by rfl, ?_⟩) ?_
      case refine_2 => (intro w; go_simp; all_goals (with_reducible rfl))
      (try simp only [Act.put]); (try simp only [List.setIfInBounds_toArray]); (try simp only [List.set_cons_succ]); (try simp only [List.set_cons_zero])
      refine wpAny_take (i := 10) (v := ?_) opAt10 (by kernel_rfl) (by kernel_rfl) (by kernel_rfl) (fun _ _ _ h => h) (Or.inl ⟨by rfl, ?_⟩) ?_
      case refine_2 => (intro w; go_simp; all_goals (with_reducible rfl))
      (try simp only [Act.put]); (try simp only [List.setIfInBounds_toArray]); (try simp only [List.set_cons_succ]); (try simp only [List.set_cons_zero])
      refine wpAny_take (i := 11) (v := ?_) opAt11 (by kernel_rfl) (by kernel_rfl) (by kernel_rfl) (fun _ _ _ h => h) (Or.inl ⟨by rfl, ?_⟩) ?_
      case refine_2 => (intro w; go_simp; all_goals (with_reducible rfl))
      (try simp only [Act.put]); (try simp only [List.setIfInBounds_toArray]); (try simp only [List.set_cons_succ]); (try simp only [List.set_cons_zero])
      refine wpAny_take (i := 12) (v := ?_) opAt12 (by kernel_rfl) (by kernel_rfl) (by kernel_rfl) (fun _ _ _ h => h) (Or.inl ⟨by rfl, ?_⟩) ?_
      case refine_2 => (intro w; go_simp; all_goals (with_reducible rfl))
      (try simp only [Act.put]); (try simp only [List.setIfInBounds_toArray]); (try simp only [List.set_cons_succ]); (try simp only [List.set_cons_zero])
      refine wpAny_take (i := 14) (v := ?_) opAt14 (by kernel_rfl) (by kernel_rfl) (by kernel_rfl) (fun _ _ _ h => h) (Or.inl ⟨by rfl, ?_⟩) ?_
      case refine_2 => (intro w; go_simp; all_goals (with_reducible rfl))
      (try simp only [Act.put]); (try simp only [List.setIfInBounds_toArray]); (try simp only [List.set_cons_succ]); (try simp only [List.set_cons_zero])
      refine wpAny_take (i := 15) (v := ?_) opAt15 (by kernel_rfl) (by kernel_rfl) (by kernel_rfl) (fun _ _ _ h => h) (Or.inl ⟨by rfl, ?_⟩) ?_
      case refine_2 => (intro w; go_simp; all_goals (with_reducible rfl))
      (try simp only [Act.put]); (try simp only [List.setIfInBounds_toArray]); (try simp only [List.set_cons_succ]); (try simp only [List.set_cons_zero])
      refine wpAny_take (i := 16) (v := ?_) opAt16 (by kernel_rfl) (by kernel_rfl) (by kernel_rfl) (fun _ _ _ h => h) (Or.inl ⟨by rfl, ?_⟩) ?_
      case refine_2 => (intro w; go_simp; all_goals (with_reducible rfl))
      (try simp only [Act.put]); (try simp only [List.setIfInBounds_toArray]); (try simp only [List.set_cons_succ]); (try simp only [List.set_cons_zero])
      refine wpAny_take (i := 17) (v := ?_) opAt17 (by kernel_rfl) (by kernel_rfl) (by kernel_rfl) (fun _ _ _ h => h) (Or.inl ⟨by rfl, ?_⟩) ?_
      case refine_2 => (intro w; go_simp; all_goals (with_reducible rfl))
      (try simp only [Act.put]); (try simp only [List.setIfInBounds_toArray]); (try simp only [List.set_cons_succ]); (try simp only [List.set_cons_zero])
      refine wpAny_take (i := 18) (v := ?_) opAt18 (by kernel_rfl) (by kernel_rfl) (by kernel_rfl) (fun _ _ _ h => h) (Or.inl ⟨by rfl, ?_⟩) ?_
      case refine_2 => (intro w; go_simp; all_goals (with_reducible rfl))
      (try simp only [Act.put]); (try simp only [List.setIfInBounds_toArray]); (try simp only [List.set_cons_succ]); (try simp only [List.set_cons_zero])
      refine wpAny_ready (rs := [13, 19]) (by kernel_rfl) (by simp) ?_
      refine AllReady.cons opAt13 (fun K hK => ?_) ?_
      · refine step_load (by rfl) 24 _ (by rfl) g (q * 8) (by rfl) y.cells _ ry Try.underlying24 rfl info24 ?_
        refine hK _ _ ?_
        clear hK K
        (try simp only [Act.put]); (try simp only [List.setIfInBounds_toArray]); (try simp only [List.set_cons_succ]); (try simp only [List.set_cons_zero])
        refine wpAny_ready (rs := [19]) (by kernel_rfl) (by simp) ?_
        refine AllReady.cons opAt19 (fun K hK => ?_) AllReady.nil
        refine step_load (by rfl) 24 _ (by rfl) g (p * 8) (by rfl) x.cells _ rx Try.underlying24 rfl info24 ?_
        refine hK _ _ ?_
        clear hK K
        (try simp only [Act.put]); (try simp only [List.setIfInBounds_toArray]); (try simp only [List.set_cons_succ]); (try simp only [List.set_cons_zero])
        refine wpAny_take (i := 20) (v := ?_) opAt20 (by kernel_rfl) (by kernel_rfl) (by kernel_rfl) (fun _ _ _ h => h) (Or.inl ⟨by rfl, ?_⟩) ?_
        case refine_2 => (intro w; go_simp; all_goals (with_reducible rfl))
        (try simp only [Act.put]); (try simp only [List.setIfInBounds_toArray]); (try simp only [List.set_cons_succ]); (try simp only [List.set_cons_zero])
        refine wpAny_ready (rs := [21]) (by kernel_rfl) (by simp) ?_
        refine AllReady.cons opAt21 (fun K hK => ?_) AllReady.nil
        refine step_store (by rfl) 24 _ _ (by rfl) g (p * 8) y.cells (by rfl) (by rfl) (own_there HO.out hjl) info24 (cells_all y) ?_
        refine hK _ _ ?_
        clear hK K
        (try simp only [Act.put]); (try simp only [List.setIfInBounds_toArray]); (try simp only [List.set_cons_succ]); (try simp only [List.set_cons_zero])
        refine wpAny_take (i := 22) (v := ?_) opAt22 (by kernel_rfl) (by kernel_rfl) (by kernel_rfl) (fun _ _ _ h => h) (Or.inl ⟨by rfl, ?_⟩) ?_
        case refine_2 => (intro w; go_simp; all_goals (with_reducible rfl))
        (try simp only [Act.put]); (try simp only [List.setIfInBounds_toArray]); (try simp only [List.set_cons_succ]); (try simp only [List.set_cons_zero])
        generalize hW2 : World.setCells _ g (p * 8) y.cells = W2
        have HOb : Hid (W2.ownsRow base 24 8 (.slice (some ⟨g, 0, none⟩) n cap) n (cellsS (L1.set p y))) := Lib.hid (by rw [← hW2]; exact HO2.out)
        have FOb : Hid ((W2.setCells g (q * 8) x.cells).ownsRow base 24 8 (.slice (some ⟨g, 0, none⟩) n cap) n (cellsS (swapL L1 p q))) := Lib.hid (by rw [← hW2]; exact FO.out)
        have KFb : Hid (Kept (fun k => k = g) w (W2.setCells g (q * 8) x.cells)) := Lib.hid (by rw [← hW2]; exact KF6.out)
        clear hW2
        refine wpAny_last (i := 23) (o := ?o) ?hr ?ho ?hn ?h
        case ho => exact opAt23
        case hr => kernel_rfl
        case hn => kernel_rfl
        intro K hK
        refine step_store (by rfl) 24 _ _ (by rfl) g (q * 8) x.cells (by rfl) (by rfl) (own_there HOb.out (by simpa using hql)) info24 (cells_all x) ?_
        refine hK.out _ _ ?_
        clear hK K
        (try simp only [Act.put]); (try simp only [List.setIfInBounds_toArray]); (try simp only [List.set_cons_succ]); (try simp only [List.set_cons_zero])
        generalize hW3 : World.setCells W2 g (q * 8) x.cells = W3
        have FOc : Hid (W3.ownsRow base 24 8 (.slice (some ⟨g, 0, none⟩) n cap) n (cellsS (swapL L1 p q))) := Lib.hid (by rw [← hW3]; exact FOb.out)
        have KFc : Hid (Kept (fun k => k = g) w W3) := Lib.hid (by rw [← hW3]; exact KFb.out)
        clear hW3
        go_wp2
        go_roundg (m - k - 1)
        case measure => omega
        case rel => exact ⟨k + 1, swapL L1 p q, by omega, by go_num, by simpa using hl1, FOc.out, ST.out.symm.trans HT1.out, KFc.out⟩
      refine AllReady.cons opAt19 (fun K hK => ?_) AllReady.nil
      refine step_load (by rfl) 24 _ (by rfl) g (p * 8) (by rfl) x.cells _ rx Try.underlying24 rfl info24 ?_
      refine hK _ _ ?_
      clear hK K
      (try simp only [Act.put]); (try simp only [List.setIfInBounds_toArray]); (try simp only [List.set_cons_succ]); (try simp only [List.set_cons_zero])
      refine wpAny_ready (rs := [13]) (by kernel_rfl) (by simp) ?_
      refine AllReady.cons opAt13 (fun K hK => ?_) AllReady.nil
      refine step_load (by rfl) 24 _ (by rfl) g (q * 8) (by rfl) y.cells _ ry Try.underlying24 rfl info24 ?_
      refine hK _ _ ?_
      clear hK K
      (try simp only [Act.put]); (try simp only [List.setIfInBounds_toArray]); (try simp only [List.set_cons_succ]); (try simp only [List.set_cons_zero])
      refine wpAny_take (i := 20) (v := ?_) opAt20 (by kernel_rfl) (by kernel_rfl) (by kernel_rfl) (fun _ _ _ h => h) (Or.inl ⟨by rfl, ?_⟩) ?_
      case refine_2 => (intro w; go_simp; all_goals (with_reducible rfl))
      (try simp only [Act.put]); (try simp only [List.setIfInBounds_toArray]); (try simp only [List.set_cons_succ]); (try simp only [List.set_cons_zero])
      refine wpAny_ready (rs := [21]) (by kernel_rfl) (by simp) ?_
      refine AllReady.cons opAt21 (fun K hK => ?_) AllReady.nil
      refine step_store (by rfl) 24 _ _ (by rfl) g (p * 8) y.cells (by rfl) (by rfl) (own_there HO.out hjl) info24 (cells_all y) ?_
      refine hK _ _ ?_
      clear hK K
      (try simp only [Act.put]); (try simp only [List.setIfInBounds_toArray]); (try simp only [List.set_cons_succ]); (try simp only [List.set_cons_zero])
      refine wpAny_take (i := 22) (v := ?_) opAt22 (by kernel_rfl) (by kernel_rfl) (by kernel_rfl) (fun _ _ _ h => h) (Or.inl ⟨by rfl, ?_⟩) ?_
      case refine_2 => (intro w; go_simp; all_goals (with_reducible rfl))
      (try simp only [Act.put]); (try simp only [List.setIfInBounds_toArray]); (try simp only [List.set_cons_succ]); (try simp only [List.set_cons_zero])
      generalize hW2 : World.setCells _ g (p * 8) y.cells = W2
      have HOb : Hid (W2.ownsRow base 24 8 (.slice (some ⟨g, 0, none⟩) n cap) n (cellsS (L1.set p y))) := Lib.hid (by rw [← hW2]; exact HO2.out)
      have FOb : Hid ((W2.setCells g (q * 8) x.cells).ownsRow base 24 8 (.slice (some ⟨g, 0, none⟩) n cap) n (cellsS (swapL L1 p q))) := Lib.hid (by rw [← hW2]; exact FO.out)
      have KFb : Hid (Kept (fun k => k = g) w (W2.setCells g (q * 8) x.cells)) := Lib.hid (by rw [← hW2]; exact KF6.out)
      clear hW2
      refine wpAny_last (i := 23) (o := ?o) ?hr ?ho ?hn ?h
      case ho => exact opAt23
      case hr => kernel_rfl
      case hn => kernel_rfl
      intro K hK
      refine step_store (by rfl) 24 _ _ (by rfl) g (q * 8) x.cells (by rfl) (by rfl) (own_there HOb.out (by simpa using hql)) info24 (cells_all x) ?_
      refine hK.out _ _ ?_
      clear hK K
      (try simp only [Act.put]); (try simp only [List.setIfInBounds_toArray]); (try simp only [List.set_cons_succ]); (try simp only [List.set_cons_zero])
      generalize hW3 : World.setCells W2 g (q * 8) x.cells = W3
      have FOc : Hid (W3.ownsRow base 24 8 (.slice (some ⟨g, 0, none⟩) n cap) n (cellsS (swapL L1 p q))) := Lib.hid (by rw [← hW3]; exact FOb.out)
      have KFc : Hid (Kept (fun k => k = g) w W3) := Lib.hid (by rw [← hW3]; exact KFb.out)
      clear hW3
      go_wp2
      go_roundg (m - k - 1)
      case measure => omega
      case rel => exact ⟨k + 1, swapL L1 p q, by omega, by go_num, by simpa using hl1, FOc.out, ST.out.symm.trans HT1.out, KFc.out⟩
    · have e0 : ¬ (k : Int) < (m : Int) := by omega
      have hend : srF a b m k L1 = L1 := by rw [srF, dif_neg hkm]
      have EN := Lib.hid (hend.symm.trans HT1.out)
      clear hend
      go_wp2
      go_end0
      exact ⟨rfl, by rw [← EN.out]; exact HO1.out, K1.out⟩
end Go.Proofs.Ytjidldbolbjdpaa
