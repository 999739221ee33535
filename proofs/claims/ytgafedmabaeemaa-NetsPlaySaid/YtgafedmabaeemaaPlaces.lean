/- NetsPlaces: the walk. -/
import Derived.Test.YtgafedmabaeemaaCount
namespace Go.Proofs.Ytgafedmabaeemaa
open Go.RowKit

/-- Of a slice that reads, its beginning. -/
theorem Reads.take {w : World} {g o n c c' : Nat} {L : List Mail} (h : Reads w (.slice (some ⟨g, o, none⟩) n c) L) (k : Nat) (hk : k ≤ L.length) : Reads w (.slice (some ⟨g, o, none⟩) k c') (L.take k) := by
  obtain ⟨ao, cap, hv, hx⟩ := h
  injection hv with h1 h2 h3
  refine ⟨_, c', by rw [List.length_take, Nat.min_eq_left hk], ?_⟩
  rcases hx with h0 | ⟨g', o', e, hc⟩
  · left; rw [h0]; simp
  · rw [← h1] at e
    injection e with e; injection e with e1 e2
    subst e1; subst e2
    exact .inr ⟨g, o, rfl, fun j u hu => by
      rw [cellsL_take, List.getElem?_take] at hu
      split at hu
      · exact hc j u hu
      · cases hu⟩
/-- Its rest, wherever Go lets it begin. -/
theorem Reads.drop {w : World} {g o n c c' : Nat} {L : List Mail} {ao : Option Addr} (h : Reads w (.slice (some ⟨g, o, none⟩) n c) L) (k m : Nat) (hm : m = L.length - k) (ha : k < L.length → ao = some ⟨g, o + k * 3, none⟩) : Reads w (.slice ao m c') (L.drop k) := by
  obtain ⟨ao', cap, hv, hx⟩ := h
  injection hv with h1 h2 h3
  refine ⟨ao, c', by rw [List.length_drop, hm], ?_⟩
  by_cases hk : k < L.length
  · rcases hx with h0 | ⟨g', o', e, hc⟩
    · rw [h0] at hk; simp at hk
    · rw [← h1] at e
      injection e with e; injection e with e1 e2
      subst e1; subst e2
      exact .inr ⟨g, o + k * 3, ha hk, fun j u hu => by
        rw [cellsL_drop, List.getElem?_drop] at hu
        rw [Nat.add_assoc]; exact hc _ u hu⟩
  · left; exact List.drop_of_length_le (by omega)

theorem insL_erase {α : Type} (L : List α) (i : Nat) (m : α) (hm : L[i]? = some m) : (insL L (i + 1) m).eraseIdx i = L := by
  have hlt := lt_of_get hm
  apply List.ext_getElem?
  intro j
  rw [List.getElem?_eraseIdx]
  split
  · rw [insL_get _ _ _ (by omega), if_pos (by omega)]
  · rw [insL_get _ _ _ (by omega)]
    by_cases h1 : j + 1 < i + 1
    · omega
    · rw [if_neg h1]
      by_cases h2 : j + 1 = i + 1
      · rw [if_pos h2]; have : j = i := by omega
        subst this; exact hm.symm
      · rw [if_neg h2]; rfl
theorem insL_take {α : Type} (L : List α) (i : Nat) (m : α) (hi : i ≤ L.length) : (insL L i m).take i = L.take i := by
  unfold insL
  rw [List.take_append_of_le_length (by simp; omega), List.take_of_length_le (by simp; omega)]
theorem insL_drop {α : Type} (L : List α) (i : Nat) (m : α) (hm : L[i]? = some m) : (insL L (i + 1) m).drop (i + 1) = L.drop i := by
  have hlt := lt_of_get hm
  have e : L[i] = m := by rw [List.getElem?_eq_getElem hlt] at hm; exact Option.some.inj hm
  unfold insL
  rw [List.drop_append_of_le_length (by simp; omega), List.drop_eq_getElem_cons hlt, e]
  rw [List.drop_of_length_le (by simp; omega)]; rfl

theorem lose_ok (w : World) (b : Nat) (L : List Mail) (i : Int) (n : Nat) (L' : List Mail) (e : i = n) (h : NetOk w b L) (hm : n < L.length) (hL : L.eraseIdx n = L') :
    Calls Try.prog 19 #[.pointer (some ⟨b, 0, none⟩), .int .i64 i] w fun e w' => e = .returned (.bool true) ∧ NetOk w' b L' ∧ Kept (fun k => k = b) w w' := by
  subst hL; exact lose_i w b L i n e h hm

/-- What acts make of a net. -/
def finL (A : List Act') : List Mail := A.foldl doneL []
theorem finL_succ (A : List Act') {k : Nat} (h : k < A.length) : finL (A.take (k + 1)) = doneL (finL (A.take k)) A[k] := by
  unfold finL; rw [List.take_succ_eq_append_getElem h, List.foldl_append]; rfl

set_option maxRecDepth 100000 in
set_option maxHeartbeats 8000000 in
theorem places_no (w : World) (v : Value) (A : List Act') (i : Int) (L : List Mail) (h : ReadsA w v A) (hl : A.length ≤ 9223372036854775807) (hall : ∀ y ∈ A, 0 ≤ y.kind ∧ y.kind < 256 ∧ y.m.d.size ≤ 9223372036854775807)
    (hg : greatB A = false) (hF : finL A = L) (hi : ¬ inR L i) :
    Calls Try.prog 6 #[v, .int .i64 i] w fun e w' => e = .returned (.bool true) ∧ Below w.heap.size w w' := by
  have hB := Nat.le_refl w.heap.size
  have SZ := Lib.hid (fun y hy => (hall y hy).2.2 : ∀ y ∈ A, y.m.d.size ≤ 9223372036854775807)
  have KB := Lib.hid (fun y hy => ⟨(hall y hy).1, (hall y hy).2.1⟩ : ∀ y ∈ A, 0 ≤ y.kind ∧ y.kind < 256)
  clear hall
  have H := Lib.hid h
  obtain ⟨ao, cap, rfl, hx⟩ := h
  have HX := Lib.hid hx; clear hx
  have HF := Lib.hid hF; clear hF
  have HG := Lib.hid hg; clear hg
  have HI := Lib.hid (not_inR hi); clear hi
  go_enter Try.func6, Try.ntmps6
  go_wp2_with fail
  refine (great_any _ _ A H.out hl SZ.out).mono ?_
  rintro e w1 ⟨rfl, rfl⟩
  rw [HG.out]
  go_wp2_with fail
  refine (new_any _).mono ?_
  rintro e w1 ⟨rfl, hN, hK⟩
  have N1 := Lib.hid hN
  have G1 := Lib.hid (Below.step (Below.refl _ _) hB hK (fun _ f => f.elim))
  clear hN hK
  have hS : ∀ k, k = w.heap.size → w.heap.size ≤ k := fun k e => by omega
  have HS := Lib.hid hS; clear hS
  go_wp2_with fail
  go_loopg [6] A.length (fun g t wr => ∃ k : Nat, k + g = A.length ∧ t = .int .i64 k ∧ NetOk wr w.heap.size (finL (A.take k)) ∧ Below w.heap.size w wr)
  case atStart => exact ⟨0, by omega, rfl, N1.out, G1.out⟩
  case round =>
    obtain ⟨k, hk, rfl, hN, hG⟩ := hrel
    have J := Lib.hid hk; have N := Lib.hid hN; have G := Lib.hid hG
    clear hk hN hG
    have hk2 : k ≤ A.length := by have := J.out; omega
    by_cases hlt : k < A.length
    · rcases HX.out with h0 | ⟨ga, oa, rfl, hc⟩
      · rw [h0] at hlt; simp at hlt
      have hget := List.getElem?_eq_getElem hlt
      have hfs := finL_succ A hlt
      obtain ⟨x, hxe⟩ : ∃ x, A[k] = x := ⟨_, rfl⟩
      rw [hxe] at hget hfs
      obtain ⟨k0, k1⟩ := KB.out x (hxe ▸ List.getElem_mem hlt)
      clear hxe
      have FS := Lib.hid hfs; clear hfs
      obtain ⟨c0, c1, c2, c3, c4⟩ := ReadsA.at hc hget
      have q0 : ga < w.heap.size := World.block_lt_of_cell? _ _ c0
      have d0 := (G.out.cell q0).trans c0
      have d1 := (G.out.cell q0).trans c1
      have d2 := (G.out.cell q0).trans c2
      have d3 := (G.out.cell q0).trans c3
      have d4 := (G.out.cell q0).trans c4
      clear c0 c1 c2 c3 c4 hc hget
      go_wp2_with fail
      refine (done_b _ _ (finL (A.take k)) x N.out k0 k1 _ rfl).mono ?_
      rintro e w3 ⟨rfl, hN, hK⟩
      have N3 := Lib.hid hN; have G3 := Lib.hid (Below.step G.out hB hK HS.out)
      clear hN hK d0 d1 d2 d3 d4
      go_wp2
      go_roundg (gk - 1)
      case measure => have := J.out; omega
      case rel => exact ⟨k + 1, by have := J.out; omega, by go_num, by rw [FS.out]; exact N3.out, G3.out⟩
    · have N3 : Hid (NetOk wr w.heap.size L) := by have := N.out; rw [List.take_of_length_le (by omega), HF.out] at this; exact Lib.hid this
      clear N KB SZ HX H
      have hle := N3.out.le
      have hcase : i < 0 ∨ (0 ≤ i ∧ (L.length : Int) ≤ i) := by have := HI.out; omega
      go_wp2_with fail
      refine (all_reads _ _ L N3.out).mono ?_
      rintro e w2 ⟨a2, cap2, rfl, hR, hnew, hK⟩
      have R2 := Lib.hid hR; have G2 := Lib.hid (Below.step G.out hB hK (fun _ f => f.elim)); have N2 := Lib.hid (N3.out.kept hK (fun f => f))
      clear hR hnew hK
      go_wp2_with fail
      refine (look_no _ _ L.length i N2.out.many HI.out).mono ?_
      rintro e w3 ⟨rfl, hK⟩
      have R3 := Lib.hid (R2.out.kept hK (fun _ _ f => f)); have G3 := Lib.hid (Below.step G2.out hB hK (fun _ f => f.elim)); have N4 := Lib.hid (N2.out.kept hK (fun f => f))
      clear hK
      rw [zero_val]
      rcases hcase with hneg | ⟨hpos, hge⟩
      all_goals
        go_wp2_with fail
        refine (all_reads _ _ L (N4.out.kept (S := fun _ => False) ((Kept.refl _ _).alloc _) (fun f => f))).mono ?_
        rintro e w5 ⟨a5, cap5, rfl, hR, hnew, hK⟩
        have R5 := Lib.hid hR; have G5 := Lib.hid (Below.step (G3.out.alloc' hB _) hB hK (fun _ f => f.elim)); have N5 := Lib.hid ((N4.out.kept (S := fun _ => False) ((Kept.refl _ _).alloc _) (fun f => f)).kept hK (fun f => f))
        have R5' := Lib.hid ((R3.out.kept (S := fun _ => False) ((Kept.refl _ _).alloc _) (fun _ _ f => f)).kept hK (fun _ _ f => f))
        clear hR hnew hK
        go_wp2_with fail
        refine (same_yes _ _ _ L R5.out R5'.out (by omega)).mono ?_
        rintro e w6 ⟨rfl, hK⟩
        have R6 := Lib.hid (R5'.out.kept hK (fun _ _ f => f)); have G6 := Lib.hid (Below.step G5.out hB hK (fun _ f => f.elim)); have N6 := Lib.hid (N5.out.kept hK (fun f => f))
        clear hK
        go_wp2_with fail
        refine (double_no _ _ L.length i N6.out.many HI.out).mono ?_
        rintro e w7 ⟨rfl, rfl⟩
        go_wp2_with fail
        refine (lose_no _ _ L.length i N6.out.many HI.out).mono ?_
        rintro e w7 ⟨rfl, rfl⟩
        go_wp2_with fail
        refine (all_reads _ _ L N6.out).mono ?_
        rintro e w7 ⟨a7, cap7, rfl, hR, hnew, hK⟩
        have R7 := Lib.hid hR; have G7 := Lib.hid (Below.step G6.out hB hK (fun _ f => f.elim))
        have R7' := Lib.hid (R6.out.kept hK (fun _ _ f => f))
        clear hR hnew hK
        go_wp2_with fail
        refine (same_yes _ _ _ L R7.out R7'.out (by omega)).mono ?_
        rintro e w8 ⟨rfl, hK⟩
        have G8 := Lib.hid (Below.step G7.out hB hK (fun _ f => f.elim))
        clear hK
        go_wp2_with fail
        refine (does_any _).mono ?_
        rintro e w9 ⟨rfl, hK⟩
        go_wp2
        go_ret
        exact ⟨rfl, Below.step G8.out hB hK (fun _ f => f.elim)⟩

theorem erase_take {α : Type} (L : List α) (n : Nat) (h : n ≤ L.length) : (L.eraseIdx n).take n = L.take n := by
  rw [List.eraseIdx_eq_take_drop_succ, List.take_append_of_le_length (by simp; omega), List.take_of_length_le (by simp; omega)]
theorem erase_drop {α : Type} (L : List α) (n : Nat) (h : n ≤ L.length) : (L.eraseIdx n).drop n = L.drop (n + 1) := by
  rw [List.eraseIdx_eq_take_drop_succ, List.drop_append_of_le_length (by simp; omega), List.drop_of_length_le (by simp; omega)]; rfl

/-- All, its value written out. -/
theorem all_form (w : World) (b : Nat) (L : List Mail) (n : Nat) (h : NetOk w b L) (hn : L.length = n) :
    Calls Try.prog 14 #[.pointer (some ⟨b, 0, none⟩)] w fun e w' => ∃ v, e = .returned v ∧ Reads w' v L ∧ ((v = .slice none 0 0 ∧ n = 0) ∨ ∃ g cap, v = .slice (some ⟨g, 0, none⟩) n cap ∧ n ≤ cap ∧ w.heap.size ≤ g) ∧ Kept (fun _ => False) w w' :=
  (all_at w b L h).mono fun e w' ⟨v, h1, h2, h3⟩ => by
    subst hn
    refine ⟨v, h1, Reads.of_row h2, ?_, h3⟩
    rcases h2.2 with ⟨e1, e2⟩ | ⟨g, cap, cur, e1, e0, _, e2, _⟩
    · exact .inl ⟨e1, e2⟩
    · exact .inr ⟨g, cap, e1, e2, e0⟩

/-- 's[n:]', wherever Go lets it begin. -/
theorem slice_from (g n len cap : Nat) (h1 : n ≤ len) (h2 : len ≤ cap) : ∃ X : Option Addr, (n < len → X = some ⟨g, 0 + n * 3, none⟩) ∧
    ∀ w, (Instr.slice 27 (.slice (some ⟨g, 0, none⟩) len cap) (some (.int .i64 (n : Int))) none none).run Try.prog w = .ok (.slice X (len - n) (cap - n)) w := by

  have i1 : (0 : Int) ≤ (n : Int) := by omega
  have i2 : (n : Int) ≤ (len : Int) := by omega
  by_cases hc : cap = n
  · have hl : len = n := by omega
    subst hl; subst hc
    exact ⟨some ⟨g, 0, none⟩, fun h => by omega, fun w => by simp [go_sem]⟩
  · exact ⟨some ⟨g, 0 + n * 3, none⟩, fun _ => rfl, fun w => by simp [go_sem, hc, i1, i2]⟩
theorem slice_from_z (g n len cap : Nat) (z : Int) (hz : z = (n : Int)) (h1 : n ≤ len) (h2 : len ≤ cap) : ∃ X : Option Addr, (n < len → X = some ⟨g, 0 + n * 3, none⟩) ∧
    ∀ w, (Instr.slice 27 (.slice (some ⟨g, 0, none⟩) len cap) (some (.int .i64 z)) none none).run Try.prog w = .ok (.slice X (len - n) (cap - n)) w := by
  subst hz; exact slice_from g n len cap h1 h2
/-- Of a nil slice. -/
theorem nil_to (n : Nat) (h : n = 0) : ∀ w, (Instr.slice 27 (.slice none 0 0) none (some (.int .i64 (n : Int))) none).run Try.prog w = .ok (.slice none 0 0) w := by
  subst h; intro w; simp [go_sem]
theorem nil_from (n : Nat) (h : n = 0) : ∀ w, (Instr.slice 27 (.slice none 0 0) (some (.int .i64 (n : Int))) none none).run Try.prog w = .ok (.slice none 0 0) w := by
  subst h; intro w; simp [go_sem]
end Go.Proofs.Ytgafedmabaeemaa
