/- Twins of rows, in memory of their own; are they what they were? -/
import Derived.Test.YtfhpjopdndnmgaaDoes
namespace Go.Proofs.Ytfhpjopdndnmgaa
open Go.RowKit

def mark : Cel := ⟨⟨#[]⟩, -70, ⟨#[]⟩⟩
set_option maxHeartbeats 2000000 in
theorem twin_any (w : World) (v : Value) (L : List Cel) (h : ReadsC w v L) (hl : L.length ≤ 1000) :
    Calls Try.prog 23 #[v] w fun e w' => ∃ b cap, e = .returned (.slice (some ⟨b, 0, none⟩) L.length cap) ∧ L.length < cap ∧ w.heap.size ≤ b ∧ b < w'.heap.size ∧ ((∀ j u, (cellsC (L ++ [mark]))[j]? = some u → w'.cell? ⟨b, j, none⟩ = some u) ∧ ∀ j, w'.frozen? ⟨b, j, none⟩ = false) ∧ Kept (fun _ => False) w w' := by
  obtain ⟨ao, cap, rfl, h⟩ := h
  obtain ⟨i0, hi, hz0, hz1, hz2⟩ := info_parts inf36
  obtain ⟨n, hn⟩ : ∃ n, L.length = n := ⟨_, rfl⟩
  have hmark : cellsC (L ++ [mark]) = cellsC L ++ [.string ⟨#[]⟩, .int .i64 (-70), .string ⟨#[]⟩] := by rw [cellsC_append]; rfl
  have hbytes : i0.bytes * (n + 1) ≤ 281474976710656 := by rw [hz2]; omega
  have LN := Lib.hid hn
  rw [hn] at hl ⊢
  have HM := Lib.hid hmark
  clear hmark
  have fin : ∀ (v2 : Value) (w2 : World), w2.ownsRow w.heap.size 36 3 v2 (n + 1) (cellsC L ++ [.string ⟨#[]⟩, .int .i64 (-70), .string ⟨#[]⟩]) → ∃ b cap, v2 = .slice (some ⟨b, 0, none⟩) (n + 1) cap ∧ n + 1 ≤ cap ∧ w.heap.size ≤ b ∧ b < w2.heap.size ∧ ((∀ j u, (cellsC (L ++ [mark]))[j]? = some u → w2.cell? ⟨b, j, none⟩ = some u) ∧ ∀ j, w2.frozen? ⟨b, j, none⟩ = false) := by
    intro v2 w2 ho
    rcases row_form ho with ⟨_, h0⟩ | ⟨g, cap, rfl, h1, h2, h3, h4⟩
    · omega
    · exact ⟨g, cap, rfl, h1, h2, h3, by rw [HM.out]; exact h4, fun j => ho.frozenAt j⟩
  have FIN := Lib.hid fin; clear fin
  by_cases hao : ao = none
  · subst hao
    have hL0 : L = [] := by
      rcases h with h | ⟨g, o, e, _⟩
      · exact h
      · cases e
    have hn0 : n = 0 := by rw [← hn, hL0]; rfl
    have N0 := Lib.hid hn0
    have hz : (n : Int) = 0 := by omega
    have L0 := Lib.hid hL0
    clear h hL0 hn
    rw [hn0]
    have hb1 : i0.bytes * 1 ≤ 281474976710656 := by rw [hz2]; omega
    have fin0 := FIN.out
    rw [hn0, L0.out] at fin0
    have FIN0 := Lib.hid fin0; clear fin0 hz
    go_enter Try.func23, Try.ntmps23
    go_wp2_with (first
      | (at_builtin; refine wpList_append_own _ rfl _ _ 25 rfl w.heap.size 36 i0 _ 3 40 Try.underlying25 hi hz0 hz1 hz2 rfl (by decide) _ _ _ rfl (O1.out.alloc _) ⟨w1.heap.size, 0, none⟩ 1 1 [.string ⟨#[]⟩, .int .i64 (-70), .string ⟨#[]⟩] rfl rfl (World.news_of_block (heap_alloc_new w1 _)) (by intro u hu; simp at hu; rcases hu with rfl | rfl | rfl <;> rfl) (by unfold maxLen; omega) (by omega) (by have := K1.out.size; simp; omega) ?_; intro v3 w3 ho3 hg3 _; obtain ⟨b, cap3, rfl, q1, q2, q3, q4⟩ := FIN0.out v3 w3 ho3; (have K3 := Lib.hid (((K1.out.mono (T := fun _ => False) (fun _ _ e => by cases e)).alloc (Obj.cells #[Value.string ⟨#[]⟩, Value.int .i64 (-70), Value.string ⟨#[]⟩] 36)).trans (grown_kept hg3) (T := fun _ => False) (fun _ _ f => f) (fun b hb e => by have := (O1.out.lt b e).1; omega))); clear ho3 hg3)
      | (at_make; refine wpList_make_own _ rfl _ _ 25 rfl w.heap.size 36 i0 _ 3 Try.underlying25 hi hz0 hz1 _ _ _ 1 rfl rfl (by omega) hb1 (by unfold maxLen; omega) (Nat.le_refl _) ?_; intro w1 ho1 hg1; (have O1 := Lib.hid ho1); (have G1 := Lib.hid hg1); (have K1 := Lib.hid (grown_kept hg1)); clear ho1 hg1))
    have i3 : (1 : Int) ≤ (cap3 : Int) := by omega
    have i4 : (0 : Int) ≤ (cap3 : Int) := by omega
    have Q4 := Lib.hid q4; clear q4
    go_wp2
    go_ret
    exact ⟨b, cap3, rfl, by omega, q2, q3, by rw [L0.out]; exact Q4.out, K3.out⟩
  · have hs : ∃ ad, ao = some ad ∧ ∀ j u, (cellsC L)[j]? = some u → w.cell? (ad.add j) = some u := by
      rcases h with h | ⟨g, o, rfl, h⟩
      · subst h
        cases ao with
        | none => exact absurd rfl hao
        | some ad => exact ⟨ad, rfl, fun j u hu => by simp [cellsC] at hu⟩
      · exact ⟨_, rfl, fun j u hu => by rw [add_mid]; exact h j u hu⟩
    obtain ⟨ad, rfl, hc⟩ := hs
    have HC := Lib.hid hc; clear hc h hao hn
    go_enter Try.func23, Try.ntmps23
    go_wp2_with (first
      | (at_builtin; refine wpList_append_own _ rfl _ _ 25 rfl w.heap.size 36 i0 _ 3 40 Try.underlying25 hi hz0 hz1 hz2 rfl (by decide) _ _ _ rfl (O2.out.alloc _) ⟨w2.heap.size, 0, none⟩ 1 1 [.string ⟨#[]⟩, .int .i64 (-70), .string ⟨#[]⟩] rfl rfl (World.news_of_block (heap_alloc_new w2 _)) (by intro u hu; simp at hu; rcases hu with rfl | rfl | rfl <;> rfl) (by unfold maxLen; omega) (by omega) (by have := K2.out.size; simp; omega) ?_; intro v3 w3 ho3 hg3 _; obtain ⟨b, cap3, rfl, q1, q2, q3, q4⟩ := FIN.out v3 w3 ho3; (have K3 := Lib.hid ((K2.out.alloc (Obj.cells #[Value.string ⟨#[]⟩, Value.int .i64 (-70), Value.string ⟨#[]⟩] 36)).trans (grown_kept hg3) (T := fun _ => False) (fun _ _ f => f) (fun b hb e => by have := (O2.out.lt b e).1; omega))); clear ho3 hg3)
      | (at_builtin; refine wpList_append_own _ rfl _ _ 25 rfl w.heap.size 36 i0 _ 3 40 Try.underlying25 hi hz0 hz1 hz2 rfl (by decide) _ _ _ rfl O1.out ad n cap (cellsC L) rfl (by rw [cellsC_length, LN.out]) (fun j u hu => (K1.out.cell (HC.out j u hu) (fun e => by cases e))) (cellsC_one L) (by unfold maxLen; omega) (by omega) (by have := K1.out.size; omega) ?_; intro v2 w2 ho2 hg2 _; (have O2 : Hid (w2.ownsRow w.heap.size 36 3 v2 n (cellsC L)) := Lib.hid (by simpa using ho2)); (have K2 := Lib.hid (K1.out.trans (grown_kept hg2) (T := fun _ => False) (fun _ _ e => by cases e) (fun b hb e => by have h := Option.some.inj e; simp at h; omega))); clear ho2 hg2)
      | (at_make; refine wpList_make_own _ rfl _ _ 25 rfl w.heap.size 36 i0 _ 3 Try.underlying25 hi hz0 hz1 _ _ _ (n + 1) rfl rfl (by omega) hbytes (by unfold maxLen; omega) (Nat.le_refl _) ?_; intro w1 ho1 hg1; (have O1 := Lib.hid ho1); (have G1 := Lib.hid hg1); (have K1 := Lib.hid (grown_kept hg1)); clear ho1 hg1))
    have i1 : (0 : Int) ≤ (n : Int) := by omega
    have i2 : (n : Int) ≤ (cap3 : Int) := by omega
    have i3 : ((n + 1 : Nat) : Int) ≤ (cap3 : Int) := by omega
    have Q4 := Lib.hid q4; clear q4
    go_wp2
    go_ret
    exact ⟨b, cap3, rfl, by omega, q2, q3, Q4.out, K3.out⟩
end Go.Proofs.Ytfhpjopdndnmgaa
