/- container/heap over merges.rows: up, down, Push, Pop. -/
import Derived.Test.YtfhpjopdndnmgaaHeapw
namespace Go.Proofs.Ytfhpjopdndnmgaa
open Go.RowKit

theorem HeapAt.slice {w : World} {base p : Nat} {v : Value} {l : List Rw} (h : HeapAt w base p v l) : ∃ a cap, v = .slice a l.length cap := by
  rcases row_form h.own with ⟨rfl, hn⟩ | ⟨g, cap, rfl, _⟩
  · exact ⟨none, 0, by rw [hn]⟩
  · exact ⟨_, _, rfl⟩

set_option maxHeartbeats 2000000 in
theorem up_w {w : World} {base p : Nat} {v : Value} {l : List Rw} (h : HeapAt w base p v l) (j : Nat) (hj : j < l.length) :
    Calls Try.prog 39 #[.iface 56 (.pointer (some ⟨p, 0, none⟩)), .int .i64 j] w fun e w' => e = .returned (.tuple #[]) ∧ HeapAt w' base p v (upL ltR l j) ∧ Kept (fun b => v.ownBlock = some b) w w' := by
  have few := h.few
  have H0 := Lib.hid h; clear h
  go_enter Try.func39, Try.ntmps39
  go_wp2
  go_loopg [1] j (fun g t wr => t = .int .i64 g ∧ g < l.length ∧ ∃ l', HeapAt wr base p v l' ∧ upL ltR l' g = upL ltR l j ∧ l'.length = l.length ∧ Kept (fun b => v.ownBlock = some b) w wr)
  case atStart => exact ⟨rfl, hj, l, H0.out, rfl, rfl, Kept.refl _ _⟩
  case round =>
    obtain ⟨rfl, hg, l', h1, h2, h3, h4⟩ := hrel
    have H := Lib.hid h1; have U := Lib.hid h2; have LN := Lib.hid h3; have K := Lib.hid h4
    clear h1 h2 h3 h4
    by_cases h0 : gk = 0
    · have e0 : ((gk : Int) - 1).tdiv 2 = (gk : Int) := by subst h0; decide
      have G := Lib.hid h0; clear h0
      go_wp2
      go_end0
      refine ⟨rfl, ?_, K.out⟩
      have e : l' = upL ltR l j := by rw [← U.out, upL, dif_pos G.out]
      rw [← e]; exact H.out
    · obtain ⟨i, hi⟩ : ∃ i, (gk - 1) / 2 = i := ⟨_, rfl⟩
      have e0 : ((gk : Int) - 1).tdiv 2 = (i : Int) := by
        rw [show (gk : Int) - 1 = ((gk - 1 : Nat) : Int) by omega, ← hi, Int.tdiv_eq_ediv_of_nonneg (by omega)]
        omega
      have ew : wrap64 (i : Int) = (i : Int) := by unfold wrap64; omega
      have hne : ¬ (i : Int) = (gk : Int) := by omega
      have hne2 : ¬ i = gk := by omega
      have hm := m_less p wr v H.out.cell
      have G := Lib.hid hi; have G0 := Lib.hid h0; clear hi h0
      cases hb : ltR (nth l' gk) (nth l' i) with
      | false =>
        go_wp2_with (go_at_call 66; refine (less_heap H.out gk i (by rw [LN.out]; exact hg) (by have := G.out; have := LN.out; omega)).mono ?_; rw [hb]; rintro e w4 ⟨rfl, K4⟩; (have H4 := Lib.hid (H.out.kept K4)); (have KK4 := Lib.hid K4); clear K4)
        go_end0
        refine ⟨rfl, ?_, K.out.trans KK4.out (fun _ _ h => h) (fun _ _ f => f.elim)⟩
        have e : l' = upL ltR l j := by rw [← U.out, upL, dif_neg G0.out, G.out, hb]; rfl
        rw [← e]; exact H4.out
      | true =>
        go_wp2_with (first
          | (go_at_call 66; refine (less_heap H.out gk i (by rw [LN.out]; exact hg) (by have := G.out; have := LN.out; omega)).mono ?_; rw [hb]; rintro e w4 ⟨rfl, K4⟩; (have H4 := Lib.hid (H.out.kept K4)); (have hm4 := m_swap p w4 v H4.out.cell); (have KK4 := Lib.hid K4); clear K4)
          | (go_at_call 67; refine (swap_heap H4.out i gk (by have := G.out; have := LN.out; omega) (by rw [LN.out]; exact hg)).mono ?_; rintro e w5 ⟨rfl, H5', K5⟩; (have H5 := Lib.hid H5'); (have KK5 := Lib.hid K5); clear K5 H5'))
        go_roundg i
        case measure => have := G.out; have := G0.out; omega
        case rel => exact ⟨rfl, by have := G.out; omega, _, H5.out, by rw [← U.out]; conv => { rhs; rw [upL, dif_neg G0.out, G.out, if_pos hb] }, by rw [length_swapL]; exact LN.out, (K.out.trans KK4.out (fun _ _ h => h) (fun _ _ f => f.elim)).trans KK5.out (fun _ _ h => h) (fun _ _ h => h)⟩
end Go.Proofs.Ytfhpjopdndnmgaa
