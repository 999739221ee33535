/- NetsOrder, NetsFull: the walks. -/
import Derived.Test.YtgafedmabaeemaaDoes
namespace Go.Proofs.Ytgafedmabaeemaa
open Go.RowKit

theorem Reads.below {B : Nat} {w w' : World} {v : Value} {L : List Mail} (h : Reads w v L) (hb : Below B w w') (hB : w.heap.size ≤ B) : Reads w' v L := by
  obtain ⟨ao, cap, rfl, h⟩ := h
  refine ⟨ao, cap, rfl, ?_⟩
  rcases h with h | ⟨g, o, rfl, hc⟩
  · exact .inl h
  · exact .inr ⟨g, o, rfl, fun j u hu => (hb.cell (p := ⟨g, o + j, none⟩) (Nat.lt_of_lt_of_le (World.block_lt_of_cell? _ _ (hc j u hu)) hB)).trans (hc j u hu)⟩
theorem ReadsA.below {B : Nat} {w w' : World} {v : Value} {L : List Act'} (h : ReadsA w v L) (hb : Below B w w') (hB : w.heap.size ≤ B) : ReadsA w' v L := by
  obtain ⟨ao, cap, rfl, h⟩ := h
  refine ⟨ao, cap, rfl, ?_⟩
  rcases h with h | ⟨g, o, rfl, hc⟩
  · exact .inl h
  · exact .inr ⟨g, o, rfl, fun j u hu => (hb.cell (p := ⟨g, o + j, none⟩) (Nat.lt_of_lt_of_le (World.block_lt_of_cell? _ _ (hc j u hu)) hB)).trans (hc j u hu)⟩

theorem _root_.Go.RowKit.Below.drewN' {B : Nat} {a w : World} (h : Below B a w) (n : Nat) : Below B a (w.drewN n) := ⟨h.os, h.tape, h.output, h.size, h.block⟩

/-- Len, in a region that draws its order. -/
theorem len_quiet (w : World) (v : Value) (m n : Nat) (h : Many w v m) : Calls Try.prog 13 #[v] (w.drewN n) fun e w' => e = .returned (.int .i64 m) ∧ w' = w.drewN n :=
  (len_any v (w.drewN n) m (h.kept (kept_drewN w n) (fun _ _ f => f))).mono fun _ _ ⟨a, b⟩ => ⟨a, b.symm⟩

set_option maxHeartbeats 4000000 in
theorem netsOrder_any (w : World) (v : Value) (L : List Mail) (h : Reads w v L) (hl : L.length ≤ 9223372036854775807) :
    Calls Try.prog 8 #[v] w fun e w' => e = .returned (.bool true) ∧ Below w.heap.size w w' := by
  have hB := Nat.le_refl w.heap.size
  obtain ⟨ao, cap, rfl, hx⟩ := h
  have HX := Lib.hid hx; clear hx
  by_cases hbig : L.length ≤ 64
  · go_enter Try.func8, Try.ntmps8
    go_wp2_with fail
    refine (new_any _).mono ?_
    rintro e w1 ⟨rfl, hN, hK⟩
    have N1 := Lib.hid hN
    have G1 := Lib.hid (Below.step (Below.refl _ _) hB hK (fun _ f => f.elim))
    clear hN hK
    have hS : ∀ i, i = w.heap.size → w.heap.size ≤ i := fun i e => by omega
    have HS := Lib.hid hS; clear hS
    go_wp2_with fail
    go_loopg [4] L.length (fun g t wr => ∃ i : Nat, i + g = L.length ∧ t = .int .i64 i ∧ NetOk wr w.heap.size (L.take i) ∧ Below w.heap.size w wr)
    case atStart => exact ⟨0, by omega, rfl, N1.out, G1.out⟩
    case round =>
      obtain ⟨i, hi, rfl, hN, hG⟩ := hrel
      have I := Lib.hid hi; have N := Lib.hid hN; have G := Lib.hid hG
      clear hi hN hG
      have hi2 : i ≤ L.length := by have := I.out; omega
      by_cases hlt : i < L.length
      · rcases HX.out with h0 | ⟨g, o, rfl, hc⟩
        · rw [h0] at hlt; simp at hlt
        obtain ⟨c0, c1, c2⟩ := Reads.at hc (List.getElem?_eq_getElem hlt)
        have d0 := (G.out.cell (World.block_lt_of_cell? _ _ c0)).trans c0
        have d1 := (G.out.cell (World.block_lt_of_cell? _ _ c1)).trans c1
        have d2 := (G.out.cell (World.block_lt_of_cell? _ _ c2)).trans c2
        clear c0 c1 c2 hc
        go_wp2_with fail
        refine (send_ok _ _ (L.take i) L[i] N.out (by simp; omega)).mono ?_
        rintro e w2 ⟨rfl, hN2, hK2⟩
        have N2 := Lib.hid hN2
        have G2 := Lib.hid (Below.step G.out hB hK2 HS.out)
        clear hN2 hK2
        go_wp2
        go_roundg (gk - 1)
        case measure => have := I.out; omega
        case rel => exact ⟨i + 1, by have := I.out; omega, by go_num, by rw [List.take_succ_eq_append_getElem hlt]; exact N2.out, G2.out⟩
      · have N3 : Hid (NetOk wr w.heap.size L) := by have := N.out; rw [List.take_of_length_le (by omega)] at this; exact Lib.hid this
        clear N
        go_wp2_with fail
        go_loopg [5] L.length (fun g t ws => ∃ i : Nat, i + g = L.length ∧ t = .int .i64 i ∧ NetOk ws w.heap.size (L.drop i) ∧ Below w.heap.size w ws)
        case atStart => exact ⟨0, by omega, rfl, N3.out, G.out⟩
        case round =>
          obtain ⟨i, hi, rfl, hN, hG⟩ := hrel
          have I2 := Lib.hid hi; have N := Lib.hid hN; have G := Lib.hid hG
          clear hi hN hG
          have hi3 : i ≤ L.length := by have := I2.out; omega
          by_cases hlt : i < L.length
          · rcases HX.out with h0 | ⟨g, o, rfl, hc⟩
            · rw [h0] at hlt; simp at hlt
            obtain ⟨c0, c1, c2⟩ := Reads.at hc (List.getElem?_eq_getElem hlt)
            have d0 := (G.out.cell (World.block_lt_of_cell? _ _ c0)).trans c0
            have d1 := (G.out.cell (World.block_lt_of_cell? _ _ c1)).trans c1
            have d2 := (G.out.cell (World.block_lt_of_cell? _ _ c2)).trans c2
            have q0 : g < w.heap.size := World.block_lt_of_cell? _ _ c0
            clear c0 c1 c2 hc
            have hd0 : (L.drop i)[0]? = some L[i] := by simp [hlt]
            have D0 := Lib.hid hd0; clear hd0
            go_wp2_with fail
            refine (take_i _ _ (L.drop i) 0 0 L[i] rfl N.out D0.out).mono ?_
            rintro e w2 ⟨rfl, hN2, hK2⟩
            have hne : g ≠ w.heap.size := by omega
            have d0 := hK2.cell d0 hne; have d1 := hK2.cell d1 hne; have d2 := hK2.cell d2 hne
            have e2 : (L.drop i).eraseIdx 0 = L.drop (i + 1) := by rw [List.eraseIdx_zero, List.tail_drop]
            rw [e2] at hN2
            have N2 := Lib.hid hN2
            have G2 := Lib.hid (Below.step G.out hB hK2 HS.out)
            have hlen : (L.drop (i + 1)).length = L.length - 1 - i := by simp; omega
            have hM := hN2.many
            rw [hlen] at hM
            have M2 := Lib.hid hM
            have hgw : g < w2.heap.size := by have := G2.out.size; omega
            clear hN2 hK2 e2 hlen hM
            have w1' : IntKind.i64.wrap ((L.length : Int) - 1) = (L.length : Int) - 1 := IntWalk.i64_in _ (by omega)
            have w2' : IntKind.i64.wrap ((L.length : Int) - 1 - i) = (L.length : Int) - 1 - i := IntWalk.i64_in _ (by omega)
            have hneq : ((((L.length - 1 - i : Nat)) : Int) != (L.length : Int) - 1 - i) = false := by rw [bne_eq_false_iff_eq]; omega
            have i1 : (0 : Int) ≤ (i : Int) := by omega
            have i2 : (i : Int) < (L.length : Int) := by omega
            have hq := eqM_true.2 (rfl : L[i] = L[i])
            have h2 := g31
            have hnq := neq31
            go_wp2_with fail
            go_quiet ((go_at_call 13; exact Calls.quiet_of_same (len_quiet _ _ _ _ (M2.out.alloc _))))
            clear w1' w2' hneq
            go_wp2
            go_roundg (gk - 1)
            case measure => have := I2.out; omega
            case rel => exact ⟨i + 1, by have := I2.out; omega, by go_num, N2.out.kept (S := fun _ => False) (by repeat (first | exact Kept.refl _ _ | apply Kept.alloc | (refine Kept.trans (S := fun _ => False) (T := fun _ => False) ?_ (kept_drewN _ _) (fun _ _ f => f) (fun _ _ f => f)))) (fun f => f), by repeat (first | exact G2.out | apply Below.drewN' | refine Below.alloc' ?_ hB _)⟩
          · go_wp2_with fail
            refine (take_no _ _ 0 0 (by have := N.out.many; rw [List.drop_of_length_le (by omega)] at this; exact this) (by omega)).mono ?_
            rintro e w2 ⟨rfl, hK2⟩
            have G2 := Lib.hid (Below.step G.out hB hK2 (fun _ f => f.elim))
            clear hK2
            rw [zero_val]
            go_wp2_with fail
            refine (does_any _).mono ?_
            rintro e w3 ⟨rfl, hK3⟩
            go_wp2
            go_ret
            exact ⟨rfl, Below.step (G2.out.alloc' hB _) hB hK3 (fun _ f => f.elim)⟩
  · go_enter Try.func8, Try.ntmps8
    go_wp2_with fail
    refine (does_any _).mono ?_
    rintro e w3 ⟨rfl, hK3⟩
    go_wp2
    go_ret
    exact ⟨rfl, Below.step (Below.refl _ _) hB hK3 (fun _ f => f.elim)⟩

/-- As many messages as are sent by a loop. -/
def fullL (m : Mail) (k : Nat) : List Mail := (List.range k).map fun (j : Nat) => Mail.mk m.f j m.d
theorem fullL_length (m : Mail) (k : Nat) : (fullL m k).length = k := by simp [fullL]
theorem fullL_succ (m : Mail) (k : Nat) : fullL m (k + 1) = fullL m k ++ [⟨m.f, k, m.d⟩] := by simp [fullL, List.range_succ]
theorem fullL_get (m : Mail) (k j : Nat) (h : j < k) : (fullL m k)[j]? = some ⟨m.f, j, m.d⟩ := by simp [fullL, h]

structure BoxM (w : World) (n : Nat) (f t : Int) (d : ByteArray) : Prop where
  c0 : w.cell? ⟨n, 0, none⟩ = some (.int .i64 f)
  c1 : w.cell? ⟨n, 1, none⟩ = some (.int .i64 t)
  c2 : w.cell? ⟨n, 2, none⟩ = some (.string d)
  fz : ∀ j, w.frozen? ⟨n, j, none⟩ = false
theorem BoxM.lt {w : World} {n : Nat} {f t : Int} {d : ByteArray} (h : BoxM w n f t d) : n < w.heap.size := World.block_lt_of_cell? _ _ h.c0
theorem BoxM.kept {S : Nat → Prop} {w w' : World} {n : Nat} {f t : Int} {d : ByteArray} (h : BoxM w n f t d) (hK : Kept S w w') (hS : ¬ S n) : BoxM w' n f t d :=
  have hl := h.lt
  ⟨hK.cell h.c0 hS, hK.cell h.c1 hS, hK.cell h.c2 hS, fun j => hK.frozen (h.fz j) hl hS⟩
theorem BoxM.setTo {w : World} {n : Nat} {f t : Int} {d : ByteArray} (h : BoxM w n f t d) (z : Int) : BoxM (w.setCell ⟨n, 1, none⟩ (.int .i64 z)) n f z d :=
  ⟨by simp [go_sem, h.c0], by simp [go_sem, h.c1], by simp [go_sem, h.c2], fun j => by simp [h.fz j]⟩

theorem send_full (w : World) (b : Nat) (L : List Mail) (m : Mail) (h : NetOk w b L) (hl : L.length = 64) :
    Calls Try.prog 21 #[.pointer (some ⟨b, 0, none⟩), .agg #[.int .i64 m.f, .int .i64 m.t, .string m.d]] w fun e w' => e = .returned (.bool false) ∧ NetOk w' b L ∧ Kept (fun k => k = b) w w' :=
  (send_at w b L m h).mono fun e w' ⟨h1, h2, h3⟩ => ⟨by rw [h1, roomB, decide_eq_false (by omega)], by
    have : sendL L m = L := by rw [sendL, putL, if_neg (by omega)]
    rwa [this] at h2, h3⟩
theorem double_full (w : World) (b : Nat) (L : List Mail) (i : Int) (h : NetOk w b L) (hl : L.length = 64) :
    Calls Try.prog 18 #[.pointer (some ⟨b, 0, none⟩), .int .i64 i] w fun e w' => e = .returned (.bool false) ∧ NetOk w' b L ∧ Kept (fun k => k = b) w w' :=
  (double_any w b L i h).mono fun e w' ⟨h1, h2, h3⟩ => ⟨by rw [h1, dupB, roomB, decide_eq_false (by omega), Bool.and_false], by
    have : dupL L i = L := by unfold dupL; split; rw [putL, if_neg (by omega)]; rfl
    rwa [this] at h2, h3⟩
theorem double_i (w : World) (b : Nat) (L : List Mail) (i : Int) (n : Nat) (m : Mail) (e : i = n) (h : NetOk w b L) (hm : L[n]? = some m) (hl : L.length < 64) :
    Calls Try.prog 18 #[.pointer (some ⟨b, 0, none⟩), .int .i64 i] w fun e w' => e = .returned (.bool true) ∧ NetOk w' b (insL L (n + 1) m) ∧ Kept (fun k => k = b) w w' := by
  subst e; exact double_ok w b L n m h hm hl
theorem look_i (w : World) (b : Nat) (L : List Mail) (i : Int) (n : Nat) (m : Mail) (e : i = n) (h : NetOk w b L) (hm : L[n]? = some m) :
    Calls Try.prog 17 #[.pointer (some ⟨b, 0, none⟩), .int .i64 i] w fun e w' => e = .returned (.tuple #[.agg #[.int .i64 m.f, .int .i64 m.t, .string m.d], .bool true]) ∧ Kept (fun _ => False) w w' := by
  subst e; exact look_at w b L n m h hm

set_option maxHeartbeats 4000000 in
theorem netsFull_any (w : World) (m : Mail) (i : Int) (h0 : 0 ≤ i) (h1 : i < 256) (hs : m.d.size ≤ 9223372036854775807) :
    Calls Try.prog 7 #[m.val, .int .u8 i] w fun e w' => e = .returned (.bool true) ∧ Below w.heap.size w w' := by
  have hB := Nat.le_refl w.heap.size
  unfold Mail.val
  by_cases hbig : m.d.size ≤ 1000
  · have bx : BoxM (w.alloc (Obj.cells #[.int .i64 m.f, .int .i64 m.t, .string m.d] 31)) w.heap.size m.f m.t m.d :=
      ⟨by simp [go_sem], by simp [go_sem], by simp [go_sem], fun j => by simp [go_sem]⟩
    have BX := Lib.hid bx; clear bx
    obtain ⟨a, ha, ha2⟩ : ∃ a : Nat, i % 64 = (a : Int) ∧ a < 64 := ⟨(i % 64).toNat, by omega, by omega⟩
    go_enter Try.func7, Try.ntmps7
    go_wp2_with fail
    refine (new_any _).mono ?_
    rintro e w1 ⟨rfl, hN, hK⟩
    simp at hN
    have N1 := Lib.hid hN
    have B1 := Lib.hid (BX.out.kept hK (fun f => f))
    have G1 := Lib.hid (Below.step ((Below.refl _ _).alloc' hB _) hB hK (fun _ f => f.elim))
    clear hN hK
    have hS : ∀ k, k = w.heap.size + 1 → w.heap.size ≤ k := fun k e => by omega
    have HS := Lib.hid hS; clear hS
    have n1 : ¬ w.heap.size = w.heap.size + 1 := by omega
    have N_1 := Lib.hid n1; clear n1
    go_wp2_with fail
    go_loopg [6] 64 (fun g t wr => ∃ k : Nat, k + g = 64 ∧ t = .int .i64 k ∧ NetOk wr (w.heap.size + 1) (fullL m k) ∧ Below w.heap.size w wr ∧ ∃ z, BoxM wr w.heap.size m.f z m.d ∧ (k = 64 → z = 63))
    case atStart => exact ⟨0, rfl, rfl, N1.out, G1.out, _, B1.out, fun h => by omega⟩
    case round =>
      obtain ⟨k, hk, rfl, hN, hG, z, hbx, hz⟩ := hrel
      have J := Lib.hid hk; have N := Lib.hid hN; have G := Lib.hid hG; have Z := Lib.hid hz; have B := Lib.hid hbx
      have fz := hbx.fz 1
      obtain ⟨b0, b1, b2, _⟩ := hbx
      clear hk hN hG hz
      have hk2 : k ≤ 64 := by have := J.out; omega
      by_cases hlt : k < 64
      · go_wp2_with fail
        refine (send_ok _ _ (fullL m k) ⟨m.f, k, m.d⟩ (N.out.kept ((Kept.refl (fun q => q = w.heap.size) _).setCell (fun _ => rfl) _) (by omega)) (by rw [fullL_length]; exact hlt)).mono ?_
        rintro e w2 ⟨rfl, hN2, hK2⟩
        have N2 := Lib.hid hN2
        have B2 := Lib.hid ((B.out.setTo k).kept hK2 N_1.out)
        have G2 := Lib.hid (Below.step (Below.step G.out hB ((Kept.refl (fun q => q = w.heap.size) _).setCell (p := ⟨w.heap.size, 1, none⟩) (fun _ => rfl) (.int .i64 k)) (fun q e => by omega)) hB hK2 HS.out)
        clear hN2 hK2 b0 b1 b2 fz
        go_wp2
        go_roundg (gk - 1)
        case measure => have := J.out; omega
        case rel => exact ⟨k + 1, by have := J.out; omega, by go_num, by rw [fullL_succ]; exact N2.out, G2.out, _, B2.out, fun h => by omega⟩
      · have hk3 : k = 64 := by omega
        have e63 : z = 63 := Z.out hk3
        subst hk3; subst e63
        clear hlt hk2 Z
        have L64 := Lib.hid (fullL_length m 64)
        have D0 := Lib.hid (fullL_get m 64 a ha2)
        have hel : ((fullL m 64).eraseIdx a).length = 63 := by rw [List.length_eraseIdx_of_lt (by rw [fullL_length]; exact ha2), fullL_length]
        have EL := Lib.hid hel; clear hel
        obtain ⟨m0, hm0⟩ : ∃ m0, ((fullL m 64).eraseIdx a)[0]? = some m0 := ⟨_, List.getElem?_eq_getElem (by rw [EL.out]; omega)⟩
        have M0 := Lib.hid hm0; clear hm0
        have IL := Lib.hid (insL_length ((fullL m 64).eraseIdx a) 1 m0 (by rw [EL.out]; omega))
        by_cases hend : a < 63
        · have hl2 : ((fullL m 64).eraseIdx a)[a]? = some ⟨m.f, (a + 1 : Nat), m.d⟩ := by
            rw [List.getElem?_eraseIdx, if_neg (by omega), fullL_get m 64 (a + 1) (by omega)]
          have L2 := Lib.hid hl2; clear hl2
          go_wp2_with fail
          refine (send_full _ _ (fullL m 64) ⟨m.f, 63, m.d⟩ N.out L64.out).mono ?_
          rintro e w2 ⟨rfl, hN, hK⟩
          have N2 := Lib.hid hN; have G2 := Lib.hid (Below.step G.out hB hK HS.out); have B2 := Lib.hid (B.out.kept hK N_1.out)
          clear hN hK b0 b1 b2 fz
          go_wp2_with fail
          refine (double_full _ _ (fullL m 64) _ N2.out L64.out).mono ?_
          rintro e w3 ⟨rfl, hN, hK⟩
          have N3 := Lib.hid hN; have G3 := Lib.hid (Below.step G2.out hB hK HS.out); have B3 := Lib.hid (B2.out.kept hK N_1.out)
          clear hN hK
          have M3 := Lib.hid (show Many w3 (.pointer (some ⟨w.heap.size + 1, 0, none⟩)) 64 by have := N3.out.many; rw [L64.out] at this; exact this)
          go_wp2_with fail
          refine (len_any _ _ 64 M3.out).mono ?_
          rintro e w4 ⟨rfl, rfl⟩
          go_wp2_with fail
          refine (take_i _ _ (fullL m 64) a a ⟨m.f, a, m.d⟩ rfl N3.out D0.out).mono ?_
          rintro e w5 ⟨rfl, hN, hK⟩
          have N5 := Lib.hid hN; have G5 := Lib.hid (Below.step G3.out hB hK HS.out); have B5 := Lib.hid (B3.out.kept hK N_1.out)
          clear hN hK
          go_wp2_with fail
          refine (look_i _ _ ((fullL m 64).eraseIdx a) a a ⟨m.f, (a + 1 : Nat), m.d⟩ rfl (N5.out.kept (S := fun _ => False) ((Kept.refl _ _).alloc _) (fun f => f)) L2.out).mono ?_
          rintro e w6 ⟨rfl, hK⟩
          have N6 := Lib.hid ((N5.out.kept (S := fun _ => False) ((Kept.refl _ _).alloc _) (fun f => f)).kept hK (fun f => f))
          have G6 := Lib.hid (Below.step (G5.out.alloc' hB _) hB hK (fun _ f => f.elim))
          have B6 := Lib.hid ((B5.out.kept (S := fun _ => False) ((Kept.refl _ _).alloc _) (fun f => f)).kept hK (fun f => f))
          obtain ⟨x0, x1, x2, _, xs⟩ := hK.fresh3 (fun f => f)
          clear hK
          go_wp2_with fail
          refine (double_i _ _ ((fullL m 64).eraseIdx a) 0 0 m0 rfl (N6.out.kept (S := fun _ => False) ((Kept.refl _ _).alloc _) (fun f => f)) M0.out (by rw [EL.out]; omega)).mono ?_
          rintro e w7 ⟨rfl, hN, hK⟩
          have N7 := Lib.hid hN
          have G7 := Lib.hid (Below.step (G6.out.alloc' hB _) hB hK HS.out)
          have b7 := (B6.out.kept (S := fun _ => False) ((Kept.refl _ _).alloc _) (fun f => f)).kept hK N_1.out
          obtain ⟨b0, b1, b2, _⟩ := b7
          clear hN hK
          have L7 := Lib.hid (show (insL ((fullL m 64).eraseIdx a) (0 + 1) m0).length = 64 by have := IL.out; rw [EL.out] at this; exact this)
          go_wp2_with fail
          refine (send_full _ _ _ ⟨m.f, 63, m.d⟩ N7.out L7.out).mono ?_
          rintro e w8 ⟨rfl, hN, hK⟩
          have N8 := Lib.hid hN
          have G8 := Lib.hid (Below.step G7.out hB hK HS.out)
          clear hN hK
          have M8 := Lib.hid (show Many w8 (.pointer (some ⟨w.heap.size + 1, 0, none⟩)) 64 by have := N8.out.many; rw [L7.out] at this; exact this)
          go_wp2_with fail
          refine (len_any _ _ 64 M8.out).mono ?_
          rintro e w9 ⟨rfl, rfl⟩
          go_wp2_with fail
          refine (does_any _).mono ?_
          rintro e w10 ⟨rfl, hK⟩
          go_wp2
          go_ret
          exact ⟨rfl, Below.step G8.out hB hK (fun _ f => f.elim)⟩
        · have hd2 : decide ((a : Int) < 63) = false := by simp; omega
          go_wp2_with fail
          refine (send_full _ _ (fullL m 64) ⟨m.f, 63, m.d⟩ N.out L64.out).mono ?_
          rintro e w2 ⟨rfl, hN, hK⟩
          have N2 := Lib.hid hN; have G2 := Lib.hid (Below.step G.out hB hK HS.out); have B2 := Lib.hid (B.out.kept hK N_1.out)
          clear hN hK b0 b1 b2 fz
          go_wp2_with fail
          refine (double_full _ _ (fullL m 64) _ N2.out L64.out).mono ?_
          rintro e w3 ⟨rfl, hN, hK⟩
          have N3 := Lib.hid hN; have G3 := Lib.hid (Below.step G2.out hB hK HS.out); have B3 := Lib.hid (B2.out.kept hK N_1.out)
          clear hN hK
          have M3 := Lib.hid (show Many w3 (.pointer (some ⟨w.heap.size + 1, 0, none⟩)) 64 by have := N3.out.many; rw [L64.out] at this; exact this)
          go_wp2_with fail
          refine (len_any _ _ 64 M3.out).mono ?_
          rintro e w4 ⟨rfl, rfl⟩
          go_wp2_with fail
          refine (take_i _ _ (fullL m 64) a a ⟨m.f, a, m.d⟩ rfl N3.out D0.out).mono ?_
          rintro e w5 ⟨rfl, hN, hK⟩
          have N5 := Lib.hid hN; have G5 := Lib.hid (Below.step G3.out hB hK HS.out); have B5 := Lib.hid (B3.out.kept hK N_1.out)
          clear hN hK
          go_wp2_with fail
          refine (look_no _ _ 63 a (by have := (N5.out.kept (S := fun _ => False) ((Kept.refl (fun _ => False) w5).alloc (Obj.cells #[.int .i64 m.f, .int .i64 a, .string m.d] 31)) (fun f => f)).many; rw [EL.out] at this; exact this) (.inr (by omega))).mono ?_
          rintro e w6 ⟨rfl, hK⟩
          rw [zero_val]
          have N6 := Lib.hid ((N5.out.kept (S := fun _ => False) ((Kept.refl _ _).alloc _) (fun f => f)).kept hK (fun f => f))
          have G6 := Lib.hid (Below.step (G5.out.alloc' hB _) hB hK (fun _ f => f.elim))
          have B6 := Lib.hid ((B5.out.kept (S := fun _ => False) ((Kept.refl _ _).alloc _) (fun f => f)).kept hK (fun f => f))
          obtain ⟨x0, x1, x2, _, xs⟩ := hK.fresh3 (fun f => f)
          clear hK
          go_wp2_with fail
          refine (double_i _ _ ((fullL m 64).eraseIdx a) 0 0 m0 rfl (N6.out.kept (S := fun _ => False) ((Kept.refl _ _).alloc _) (fun f => f)) M0.out (by rw [EL.out]; omega)).mono ?_
          rintro e w7 ⟨rfl, hN, hK⟩
          have N7 := Lib.hid hN
          have G7 := Lib.hid (Below.step (G6.out.alloc' hB _) hB hK HS.out)
          have b7 := (B6.out.kept (S := fun _ => False) ((Kept.refl _ _).alloc _) (fun f => f)).kept hK N_1.out
          obtain ⟨b0, b1, b2, _⟩ := b7
          clear hN hK
          have L7 := Lib.hid (show (insL ((fullL m 64).eraseIdx a) (0 + 1) m0).length = 64 by have := IL.out; rw [EL.out] at this; exact this)
          go_wp2_with fail
          refine (send_full _ _ _ ⟨m.f, 63, m.d⟩ N7.out L7.out).mono ?_
          rintro e w8 ⟨rfl, hN, hK⟩
          have N8 := Lib.hid hN
          have G8 := Lib.hid (Below.step G7.out hB hK HS.out)
          clear hN hK
          have M8 := Lib.hid (show Many w8 (.pointer (some ⟨w.heap.size + 1, 0, none⟩)) 64 by have := N8.out.many; rw [L7.out] at this; exact this)
          go_wp2_with fail
          refine (len_any _ _ 64 M8.out).mono ?_
          rintro e w9 ⟨rfl, rfl⟩
          go_wp2_with fail
          refine (does_any _).mono ?_
          rintro e w10 ⟨rfl, hK⟩
          go_wp2
          go_ret
          exact ⟨rfl, Below.step G8.out hB hK (fun _ f => f.elim)⟩
  · go_enter Try.func7, Try.ntmps7
    go_wp2
    go_ret
    exact ⟨rfl, (Below.refl _ _).alloc' hB _⟩

end Go.Proofs.Ytgafedmabaeemaa
