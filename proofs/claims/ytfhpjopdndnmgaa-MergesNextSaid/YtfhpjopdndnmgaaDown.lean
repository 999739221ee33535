/- container/heap's down over merges.rows. -/
import Derived.Test.YtfhpjopdndnmgaaUpdown
namespace Go.Proofs.Ytfhpjopdndnmgaa
open Go.RowKit

set_option maxHeartbeats 4000000 in
theorem down_w {w : World} {base p : Nat} {v : Value} {l : List Rw} (h : HeapAt w base p v l) (n : Nat) (hn : n ≤ l.length) (hl : 0 < l.length) :
    Calls Try.prog 40 #[.iface 56 (.pointer (some ⟨p, 0, none⟩)), .int .i64 0, .int .i64 n] w fun e w' => (∃ x, e = .returned x) ∧ HeapAt w' base p v (downL ltR n l 0) ∧ Kept (fun b => v.ownBlock = some b) w w' := by
  have few := h.few
  have H0 := Lib.hid h; clear h
  go_enter Try.func40, Try.ntmps40
  go_wp2
  go_loopg [7] n (fun g t wr => ∃ i : Nat, g = n - i ∧ t = .int .i64 i ∧ i < l.length ∧ ∃ l', HeapAt wr base p v l' ∧ downL ltR n l' i = downL ltR n l 0 ∧ l'.length = l.length ∧ Kept (fun b => v.ownBlock = some b) w wr)
  case atStart => exact ⟨0, rfl, rfl, hl, l, H0.out, rfl, rfl, Kept.refl _ _⟩
  case round =>
    obtain ⟨i, hgk, rfl, hi, l', h1, h2, h3, h4⟩ := hrel
    have H := Lib.hid h1; have U := Lib.hid h2; have LN := Lib.hid h3; have K := Lib.hid h4; have GK := Lib.hid hgk
    clear h1 h2 h3 h4 hgk
    obtain ⟨a, ha⟩ : ∃ a, 2 * i + 1 = a := ⟨_, rfl⟩
    obtain ⟨b, hb⟩ : ∃ b, a + 1 = b := ⟨_, rfl⟩
    have ea : 2 * (i : Int) + 1 = (a : Int) := by omega
    have eb : (a : Int) + 1 = (b : Int) := by omega
    have wa : wrap64 (a : Int) = (a : Int) := by unfold wrap64; omega
    have wb : wrap64 (b : Int) = (b : Int) := by unfold wrap64; omega
    have A := Lib.hid ha; have B := Lib.hid hb; have EB := Lib.hid eb; clear ha hb eb
    have c2 : ¬ (a : Int) < 0 := by omega
    by_cases han : a < n
    · have c1 : ¬ (n : Int) ≤ (a : Int) := by omega
      have eb := EB.out
      by_cases hbn : b < n
      · have c3 : (b : Int) < (n : Int) := by omega
        have hm := m_less p wr v H.out.cell
        have HA := Lib.hid han; have HB := Lib.hid hbn; clear hbn
        cases hx : ltR (nth l' b) (nth l' a) with
        | false =>
          have hk : kidL ltR n l' i = a := by
            unfold kidL; rw [show 2 * i + 2 = b by have := A.out; have := B.out; omega, A.out, hx]; simp
          have HK := Lib.hid hk; have X := Lib.hid hx; clear hk hx
          go_wp2_with fail
          refine (less_heap H.out b a (by have := HB.out; have := LN.out; omega) (by have := HA.out; have := LN.out; omega)).mono ?_
          rw [X.out]; rintro e w4 ⟨rfl, K4⟩
          have H4 := Lib.hid (H.out.kept K4); have hm4 := m_less p w4 v H4.out.cell; have KK4 := Lib.hid (K.out.trans K4 (fun _ _ h => h) (fun _ _ f => f.elim))
          clear K4
          have GD := Lib.hid (kidL_gt ltR n l' i)
          cases hy : ltR (nth l' a) (nth l' i) with
          | false =>
            have Y := Lib.hid hy; clear hy
            go_wp2_with fail
            refine (less_heap H4.out a i (by have := HA.out; have := LN.out; omega) (by rw [LN.out]; exact hi)).mono ?_
            rw [Y.out]; rintro e w5 ⟨rfl, K5⟩
            have H5 := Lib.hid (H4.out.kept K5); have KK5 := Lib.hid (KK4.out.trans K5 (fun _ _ h => h) (fun _ _ f => f.elim)); clear K5
            go_wp2
            go_ret
            refine ⟨⟨_, rfl⟩, ?_, KK5.out⟩
            have e : l' = downL ltR n l 0 := by rw [← U.out, downL, dif_pos (by rw [A.out]; exact HA.out), HK.out, Y.out]; rfl
            rw [← e]; exact H5.out
          | true =>
            have Y := Lib.hid hy; clear hy
            go_wp2_with fail
            refine (less_heap H4.out a i (by have := HA.out; have := LN.out; omega) (by rw [LN.out]; exact hi)).mono ?_
            rw [Y.out]; rintro e w5 ⟨rfl, K5⟩
            have H5 := Lib.hid (H4.out.kept K5); have KK5 := Lib.hid (KK4.out.trans K5 (fun _ _ h => h) (fun _ _ f => f.elim)); clear K5
            have hm5 := m_swap p w5 v H5.out.cell
            go_wp2_with fail
            refine (swap_heap H5.out i a (by rw [LN.out]; exact hi) (by have := HA.out; have := LN.out; omega)).mono ?_
            rintro e w6 ⟨rfl, H6', K6⟩
            have H6 := Lib.hid H6'; have KK6 := Lib.hid (KK5.out.trans K6 (fun _ _ h => h) (fun _ _ h => h)); clear H6' K6
            go_wp2
            go_roundg (n - a)
            case measure => have := GK.out; have := A.out; have := B.out; have := HA.out; omega
            case rel => exact ⟨a, rfl, rfl, by have := HA.out; omega, _, H6.out, by rw [← U.out]; conv => { rhs; rw [downL, dif_pos (show 2 * i + 1 < n by rw [A.out]; exact HA.out), HK.out, if_pos Y.out] }, by rw [length_swapL]; exact LN.out, KK6.out⟩
        | true =>
          have hk : kidL ltR n l' i = b := by
            unfold kidL; rw [show 2 * i + 2 = b by have := A.out; have := B.out; omega, A.out, hx]; simp [HB.out]
          have HK := Lib.hid hk; have X := Lib.hid hx; clear hk hx
          go_wp2_with fail
          refine (less_heap H.out b a (by have := HB.out; have := LN.out; omega) (by have := HA.out; have := LN.out; omega)).mono ?_
          rw [X.out]; rintro e w4 ⟨rfl, K4⟩
          have H4 := Lib.hid (H.out.kept K4); have hm4 := m_less p w4 v H4.out.cell; have KK4 := Lib.hid (K.out.trans K4 (fun _ _ h => h) (fun _ _ f => f.elim))
          clear K4
          have GD := Lib.hid (kidL_gt ltR n l' i)
          cases hy : ltR (nth l' b) (nth l' i) with
          | false =>
            have Y := Lib.hid hy; clear hy
            go_wp2_with fail
            refine (less_heap H4.out b i (by have := HA.out; have := LN.out; have := HB.out; omega) (by rw [LN.out]; exact hi)).mono ?_
            rw [Y.out]; rintro e w5 ⟨rfl, K5⟩
            have H5 := Lib.hid (H4.out.kept K5); have KK5 := Lib.hid (KK4.out.trans K5 (fun _ _ h => h) (fun _ _ f => f.elim)); clear K5
            go_wp2
            go_ret
            refine ⟨⟨_, rfl⟩, ?_, KK5.out⟩
            have e : l' = downL ltR n l 0 := by rw [← U.out, downL, dif_pos (by rw [A.out]; exact HA.out), HK.out, Y.out]; rfl
            rw [← e]; exact H5.out
          | true =>
            have Y := Lib.hid hy; clear hy
            go_wp2_with fail
            refine (less_heap H4.out b i (by have := HA.out; have := LN.out; have := HB.out; omega) (by rw [LN.out]; exact hi)).mono ?_
            rw [Y.out]; rintro e w5 ⟨rfl, K5⟩
            have H5 := Lib.hid (H4.out.kept K5); have KK5 := Lib.hid (KK4.out.trans K5 (fun _ _ h => h) (fun _ _ f => f.elim)); clear K5
            have hm5 := m_swap p w5 v H5.out.cell
            go_wp2_with fail
            refine (swap_heap H5.out i b (by rw [LN.out]; exact hi) (by have := HA.out; have := LN.out; have := HB.out; omega)).mono ?_
            rintro e w6 ⟨rfl, H6', K6⟩
            have H6 := Lib.hid H6'; have KK6 := Lib.hid (KK5.out.trans K6 (fun _ _ h => h) (fun _ _ h => h)); clear H6' K6
            go_wp2
            go_roundg (n - b)
            case measure => have := GK.out; have := A.out; have := B.out; have := HA.out; omega
            case rel => exact ⟨b, rfl, rfl, by have := HA.out; have := HB.out; omega, _, H6.out, by rw [← U.out]; conv => { rhs; rw [downL, dif_pos (show 2 * i + 1 < n by rw [A.out]; exact HA.out), HK.out, if_pos Y.out] }, by rw [length_swapL]; exact LN.out, KK6.out⟩
      · have c3 : ¬ (b : Int) < (n : Int) := by omega
        have hm := m_less p wr v H.out.cell
        have hk : kidL ltR n l' i = a := by
          unfold kidL; rw [show 2 * i + 2 = b by have := A.out; have := B.out; omega, A.out]; simp [hbn]
        have HA := Lib.hid han; have HB := Lib.hid hbn; have HK := Lib.hid hk; clear hbn hk
        skip
        have GD := Lib.hid (kidL_gt ltR n l' i)
        cases hy : ltR (nth l' a) (nth l' i) with
        | false =>
          have Y := Lib.hid hy; clear hy
          go_wp2_with fail
          refine (less_heap H.out a i (by have := HA.out; have := LN.out; omega) (by rw [LN.out]; exact hi)).mono ?_
          rw [Y.out]; rintro e w5 ⟨rfl, K5⟩
          have H5 := Lib.hid (H.out.kept K5); have KK5 := Lib.hid (K.out.trans K5 (fun _ _ h => h) (fun _ _ f => f.elim)); clear K5
          go_wp2
          go_ret
          refine ⟨⟨_, rfl⟩, ?_, KK5.out⟩
          have e : l' = downL ltR n l 0 := by rw [← U.out, downL, dif_pos (by rw [A.out]; exact HA.out), HK.out, Y.out]; rfl
          rw [← e]; exact H5.out
        | true =>
          have Y := Lib.hid hy; clear hy
          go_wp2_with fail
          refine (less_heap H.out a i (by have := HA.out; have := LN.out; omega) (by rw [LN.out]; exact hi)).mono ?_
          rw [Y.out]; rintro e w5 ⟨rfl, K5⟩
          have H5 := Lib.hid (H.out.kept K5); have KK5 := Lib.hid (K.out.trans K5 (fun _ _ h => h) (fun _ _ f => f.elim)); clear K5
          have hm5 := m_swap p w5 v H5.out.cell
          go_wp2_with fail
          refine (swap_heap H5.out i a (by rw [LN.out]; exact hi) (by have := HA.out; have := LN.out; omega)).mono ?_
          rintro e w6 ⟨rfl, H6', K6⟩
          have H6 := Lib.hid H6'; have KK6 := Lib.hid (KK5.out.trans K6 (fun _ _ h => h) (fun _ _ h => h)); clear H6' K6
          go_wp2
          go_roundg (n - a)
          case measure => have := GK.out; have := A.out; have := B.out; have := HA.out; omega
          case rel => exact ⟨a, rfl, rfl, by have := HA.out; omega, _, H6.out, by rw [← U.out]; conv => { rhs; rw [downL, dif_pos (show 2 * i + 1 < n by rw [A.out]; exact HA.out), HK.out, if_pos Y.out] }, by rw [length_swapL]; exact LN.out, KK6.out⟩
    · have c1 : (n : Int) ≤ (a : Int) := by omega
      have HA := Lib.hid han; clear han
      go_wp2
      go_ret
      refine ⟨⟨_, rfl⟩, ?_, K.out⟩
      have e : l' = downL ltR n l 0 := by rw [← U.out, downL, dif_neg (by rw [A.out]; exact HA.out)]
      rw [← e]; exact H.out
end Go.Proofs.Ytfhpjopdndnmgaa
