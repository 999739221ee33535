/- container/heap's Push and Pop over merges.rows. -/
import Derived.Test.YtfhpjopdndnmgaaDown
namespace Go.Proofs.Ytfhpjopdndnmgaa
open Go.RowKit

set_option maxHeartbeats 2000000 in
theorem heap_push {w : World} {base p : Nat} {v : Value} {l : List Rw} {r : Rw} (h : HeapAt w base p v l) (hr : GoodR w r) (hrp : r.blk ≠ p) (hrv : v.ownBlock ≠ some r.blk) (hl : l.length < 100) (hb : base ≤ w.heap.size) :
    Calls Try.prog 31 #[.iface 56 (.pointer (some ⟨p, 0, none⟩)), .iface 58 (.agg #[.slice (some ⟨r.blk, r.off, none⟩) r.xs.length r.cap, .int .i64 r.place])] w fun e w' => e = .returned (.tuple #[]) ∧
      ∃ v', HeapAt w' base p v' (pushL ltR l r) ∧ Kept (mine p v) w w' ∧ (v'.ownBlock = v.ownBlock ∨ ∀ b, v'.ownBlock = some b → w.heap.size ≤ b) := by
  have hm := m_push p
  have H := Lib.hid h; have R := Lib.hid hr; have RP := Lib.hid hrp; have RV := Lib.hid hrv
  clear h hr hrp hrv
  go_enter Try.func31, Try.ntmps31
  go_wp2_with fail
  refine (rows_push H.out R.out RP.out RV.out hl hb).mono ?_
  rintro e w1 ⟨rfl, v1, h1, k1, a1⟩
  obtain ⟨q, hq⟩ : ∃ q, l ++ [r] = q := ⟨_, rfl⟩
  have hql : q.length = l.length + 1 := by rw [← hq]; simp
  rw [hq] at h1
  have hm1 := m_len p w1 v1 h1.cell
  obtain ⟨ao, cap, rfl⟩ := h1.slice
  have H1 := Lib.hid h1; have K1 := Lib.hid k1; have A1 := Lib.hid a1; have Q := Lib.hid hq; have QL := Lib.hid hql
  clear h1 k1 a1 hq hql
  go_wp2_with fail
  refine (len_rows _ ao q.length cap w1 rfl).mono ?_
  rintro e w2 ⟨rfl, rfl⟩
  have e3 : (q.length : Int) - 1 = (l.length : Int) := by have := QL.out; omega
  have e4 : wrap64 (l.length : Int) = (l.length : Int) := by unfold wrap64; omega
  go_wp2_with fail
  refine (up_w H1.out l.length (by have := QL.out; omega)).mono ?_
  rintro e w3 ⟨rfl, h3, k3⟩
  have H3 := Lib.hid h3; have K3 := Lib.hid k3; clear h3 k3
  go_wp2
  go_end0
  refine ⟨rfl, _, by unfold pushL; rw [Q.out]; exact H3.out, K1.out.trans K3.out (fun _ _ h => h) (fun b hb hk => ?_), A1.out⟩
  rcases A1.out with e | e
  · exact .inr (e ▸ hk)
  · have := e b hk; omega

set_option maxHeartbeats 2000000 in
theorem heap_pop {w : World} {base p : Nat} {v : Value} {l : List Rw} (h : HeapAt w base p v l) (hl : 0 < l.length) :
    Calls Try.prog 33 #[.iface 56 (.pointer (some ⟨p, 0, none⟩))] w fun e w' => e = .returned (.iface 58 (.agg #[.slice (some ⟨(nth l 0).blk, (nth l 0).off, none⟩) (nth l 0).xs.length (nth l 0).cap, .int .i64 (nth l 0).place])) ∧
      ∃ v', HeapAt w' base p v' (popL ltR l) ∧ Kept (mine p v) w w' ∧ v'.ownBlock = v.ownBlock := by
  have few := h.few
  obtain ⟨n, hn⟩ : ∃ n, l.length - 1 = n := ⟨_, rfl⟩
  have hm := m_len p w v h.cell
  have hne : l ≠ [] := fun e => by rw [e] at hl; simp at hl
  obtain ⟨ao, cap, rfl⟩ := h.slice
  have H := Lib.hid h; have N := Lib.hid hn; have NE := Lib.hid hne; clear h hn hne
  go_enter Try.func33, Try.ntmps33
  go_wp2_with fail
  refine (len_rows _ ao l.length cap w rfl).mono ?_
  rintro e w2 ⟨rfl, rfl⟩
  have e3 : (l.length : Int) - 1 = (n : Int) := by have := N.out; omega
  have e4 : wrap64 (n : Int) = (n : Int) := by have := N.out; unfold wrap64; omega
  have hm2 := m_swap p w _ H.out.cell
  go_wp2_with fail
  refine (swap_heap H.out 0 n hl (by have := N.out; omega)).mono ?_
  rintro e w3 ⟨rfl, h3, k3⟩
  have H3 := Lib.hid h3; have K3 := Lib.hid k3; clear h3 k3
  go_wp2_with fail
  refine (down_w H3.out n (by rw [length_swapL]; have := N.out; omega) (by rw [length_swapL]; exact hl)).mono ?_
  rintro e w4 ⟨⟨x, rfl⟩, h4, k4⟩
  have h5 : HeapAt w4 base p (.slice ao l.length cap) (sunkL ltR l) := by unfold sunkL; rw [N.out]; exact h4
  have H5 := Lib.hid h5; have K4 := Lib.hid (K3.out.trans k4 (fun _ _ h => h) (fun _ _ h => h)); clear h4 h5 k4
  have hm4 := m_pop p w4
  have hsl := length_sunk ltR NE.out
  have hlast := sunk_last ltR NE.out
  have SL := Lib.hid hsl; have LA := Lib.hid hlast; clear hsl hlast
  go_wp2_with fail
  refine (rows_pop H5.out (by rw [SL.out]; exact hl)).mono ?_
  rw [SL.out, LA.out]
  rintro e w5 ⟨rfl, v5, h5, k5, a5⟩
  have H6 := Lib.hid h5; have K6 := Lib.hid k5; have A6 := Lib.hid a5; clear h5 k5 a5
  go_wp2
  go_ret
  exact ⟨rfl, v5, H6.out, K4.out.trans K6.out (fun b _ hb => .inr hb) (fun _ _ h => h), A6.out⟩
end Go.Proofs.Ytfhpjopdndnmgaa
