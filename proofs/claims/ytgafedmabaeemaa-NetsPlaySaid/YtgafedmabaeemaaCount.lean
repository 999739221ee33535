/- NetsCount: the walk, and what an act makes of the number of messages and of how often one is there. -/
import Derived.Test.YtgafedmabaeemaaOrder
namespace Go.Proofs.Ytgafedmabaeemaa
open Go.RowKit

/-- How often a list has a message. -/
def cnt (q : Mail) : List Mail → Nat
  | [] => 0
  | m :: l => (if eqM m q = true then 1 else 0) + cnt q l
theorem cnt_le (q : Mail) : ∀ L, cnt q L ≤ L.length
  | [] => by simp [cnt]
  | m :: l => by have := cnt_le q l; simp only [cnt, List.length_cons]; split <;> omega
theorem cnt_append (q : Mail) : ∀ a b, cnt q (a ++ b) = cnt q a + cnt q b
  | [], b => by simp [cnt]
  | m :: l, b => by simp [cnt, cnt_append q l b]; omega
theorem cnt_insL (q : Mail) (L : List Mail) (i : Nat) (m : Mail) : cnt q (insL L i m) = cnt q L + if eqM m q = true then 1 else 0 := by
  unfold insL
  have h : cnt q L = cnt q (L.take i) + cnt q (L.drop i) := by rw [← cnt_append, List.take_append_drop]
  rw [cnt_append, h]; simp only [cnt]; omega
theorem cnt_erase (q : Mail) (L : List Mail) (i : Nat) (m : Mail) (hm : L[i]? = some m) : cnt q L = cnt q (L.eraseIdx i) + if eqM m q = true then 1 else 0 := by
  have hlt := lt_of_get hm
  have e : L[i] = m := by rw [List.getElem?_eq_getElem hlt] at hm; exact Option.some.inj hm
  have h : cnt q L = cnt q (L.take i) + cnt q (L.drop i) := by rw [← cnt_append, List.take_append_drop]
  rw [List.eraseIdx_eq_take_drop_succ, cnt_append, h, List.drop_eq_getElem_cons hlt, e]; simp only [cnt]; omega

/-- What an act adds, and of which message. -/
def addOf (L : List Mail) (x : Act') : Int := if doneB L x = false then 0 else if x.kind % 9 < 4 then 1 else if x.kind % 9 = 7 then 1 else if x.kind % 9 = 4 then 0 else -1
def wasOf (L : List Mail) (x : Act') : Mail := if doneB L x = true ∧ x.kind % 9 < 4 then x.m else lookM L x.i

theorem adds (L : List Mail) (x : Act') (q : Mail) (hl : L.length ≤ 64) (h0 : 0 ≤ x.kind % 9) (_h9 : x.kind % 9 < 9) :
    ((doneL L x).length : Int) = L.length + addOf L x ∧ (addOf L x ≠ 0 → 4 ≤ x.kind % 9 → inB L x.i = true) ∧ ((cnt q (doneL L x) : Nat) : Int) = cnt q L + (if eqM (wasOf L x) q = true then addOf L x else 0) ∧ (doneL L x).length ≤ 64 := by
  have hk : x.kind % 9 < 4 ∨ x.kind % 9 = 4 ∨ (x.kind % 9 = 5 ∨ x.kind % 9 = 6 ∨ x.kind % 9 = 8) ∨ x.kind % 9 = 7 := by omega
  rcases hk with hk | hk | hk | hk
  · have e2 : doneB L x = roomB L := by rw [doneB, if_neg (by omega), if_neg (by omega)]
    have e3 : doneL L x = sendL L x.m := by rw [doneL, if_neg (by omega), if_neg (by omega), if_neg (by omega)]
    by_cases hr : L.length < 64
    · have r : roomB L = true := decide_eq_true hr
      have s : sendL L x.m = L ++ [x.m] := by simp [sendL, putL, hr, insL]
      have a : addOf L x = 1 := by rw [addOf, if_neg (by rw [e2, r]; simp), if_pos hk]
      have ws : wasOf L x = x.m := by rw [wasOf, if_pos ⟨by rw [e2, r], hk⟩]
      rw [e3, s, a, ws, cnt_append]
      refine ⟨by simp, fun _ h => by omega, ?_, by simp; omega⟩
      simp only [cnt]; split <;> simp
    · have r : roomB L = false := decide_eq_false hr
      have s : sendL L x.m = L := by rw [sendL, putL, if_neg hr]
      have a : addOf L x = 0 := by rw [addOf, if_pos (by rw [e2, r])]
      rw [e3, s, a]
      exact ⟨by simp, fun h => absurd rfl h, by simp, hl⟩
  · have e3 : doneL L x = L := by rw [doneL, if_pos (by omega)]
    have a : addOf L x = 0 := by
      unfold addOf; split
      · rfl
      · simp [hk]
    rw [e3, a]
    exact ⟨by simp, fun h => absurd rfl h, by simp, hl⟩
  · have e2 : doneB L x = inB L x.i := by rw [doneB, if_pos (by omega)]
    have e3 : doneL L x = delL L x.i := by rw [doneL, if_neg (by omega), if_pos (by omega)]
    by_cases hi : inR L x.i
    · have r : inB L x.i = true := decide_eq_true hi
      obtain ⟨n, hn, hlt, htn, hm⟩ := inR_nat hi
      have s : delL L x.i = L.eraseIdx n := by rw [delL, if_pos hi, htn]
      have a : addOf L x = -1 := by rw [addOf, if_neg (by rw [e2, r]; simp), if_neg (by omega), if_neg (by omega), if_neg (by omega)]
      have ws : wasOf L x = lookM L x.i := by rw [wasOf, if_neg (by omega)]
      have c := cnt_erase q L n _ hm
      rw [e3, s, a, ws]
      refine ⟨by rw [List.length_eraseIdx_of_lt hlt]; omega, fun _ _ => r, ?_, by rw [List.length_eraseIdx_of_lt hlt]; omega⟩
      split at c <;> rename_i hq
      · rw [if_pos hq]; omega
      · rw [if_neg hq]; omega
    · have r : inB L x.i = false := decide_eq_false hi
      have s : delL L x.i = L := by rw [delL, if_neg hi]
      have a : addOf L x = 0 := by rw [addOf, if_pos (by rw [e2, r])]
      rw [e3, s, a]
      exact ⟨by simp, fun h => absurd rfl h, by simp, hl⟩
  · have e2 : doneB L x = dupB L x.i := by rw [doneB, if_neg (by omega), if_pos (by omega)]
    have e3 : doneL L x = dupL L x.i := by rw [doneL, if_neg (by omega), if_neg (by omega), if_pos (by omega)]
    by_cases hi : inR L x.i
    · have r1 : inB L x.i = true := decide_eq_true hi
      obtain ⟨n, hn, hlt, htn, hm⟩ := inR_nat hi
      by_cases hr : L.length < 64
      · have r : dupB L x.i = true := by rw [dupB, r1, roomB, decide_eq_true hr]; rfl
        have s : dupL L x.i = insL L (n + 1) (lookM L x.i) := by rw [dupL, if_pos hi, htn, putL, if_pos hr]
        have a : addOf L x = 1 := by rw [addOf, if_neg (by rw [e2, r]; simp), if_neg (by omega), if_pos hk]
        have ws : wasOf L x = lookM L x.i := by rw [wasOf, if_neg (by omega)]
        rw [e3, s, a, ws, cnt_insL, insL_length _ _ _ (by omega)]
        refine ⟨by simp, fun _ _ => r1, ?_, by omega⟩
        split <;> simp
      · have r : dupB L x.i = false := by rw [dupB, roomB, decide_eq_false hr, Bool.and_false]
        have s : dupL L x.i = L := by rw [dupL, if_pos hi, putL, if_neg hr]
        have a : addOf L x = 0 := by rw [addOf, if_pos (by rw [e2, r])]
        rw [e3, s, a]
        exact ⟨by simp, fun h => absurd rfl h, by simp, hl⟩
    · have r : dupB L x.i = false := by rw [dupB, inB, decide_eq_false hi]; rfl
      have s : dupL L x.i = L := by rw [dupL, if_neg hi]
      have a : addOf L x = 0 := by rw [addOf, if_pos (by rw [e2, r])]
      rw [e3, s, a]
      exact ⟨by simp, fun h => absurd rfl h, by simp, hl⟩


theorem done_b (w : World) (b : Nat) (L : List Mail) (x : Act') (h : NetOk w b L) (h0 : 0 ≤ x.kind) (h1 : x.kind < 256) (r : Bool) (hr : doneB L x = r) :
    Calls Try.prog 11 #[.pointer (some ⟨b, 0, none⟩), .agg #[.int .u8 x.kind, .int .i64 x.m.f, .int .i64 x.m.t, .string x.m.d, .int .i64 x.i]] w fun e w' => e = .returned (.tuple #[.agg #[.int .i64 (doneM L x).f, .int .i64 (doneM L x).t, .string (doneM L x).d], .bool r]) ∧ NetOk w' b (doneL L x) ∧ Kept (fun k => k = b) w w' := by
  subst hr; exact done_any w b L x h h0 h1
theorem look_b (w : World) (b : Nat) (L : List Mail) (i : Int) (h : NetOk w b L) (r : Bool) (hr : inB L i = r) :
    Calls Try.prog 17 #[.pointer (some ⟨b, 0, none⟩), .int .i64 i] w fun e w' => e = .returned (.tuple #[.agg #[.int .i64 (lookM L i).f, .int .i64 (lookM L i).t, .string (lookM L i).d], .bool r]) ∧ NetOk w' b L ∧ Kept (fun _ => False) w w' := by
  subst hr; exact look_any w b L i h

/-- Len, its number as the walk spells it. -/
theorem len_z (w : World) (v : Value) (m : Nat) (z : Int) (h : Many w v m) (hz : (m : Int) = z) : Calls Try.prog 13 #[v] w fun e w' => e = .returned (.int .i64 z) ∧ w = w' := by
  subst hz; exact len_any v w m h

/-- What holds at the head of each round of NetsCount. -/
structure CountAt (w wr : World) (n b : Nat) (q : Mail) (many off : Value) (L : List Mail) : Prop where
  net : NetOk wr b L
  below : Below w.heap.size w wr
  box : BoxM wr n q.f q.t q.d
  many : many = .int .i64 L.length
  off : off = .int .i64 (cnt q L)

set_option maxRecDepth 100000 in
set_option maxHeartbeats 4000000 in
theorem netsCount_any (w : World) (v : Value) (A : List Act') (q : Mail) (h : ReadsA w v A) (hl : A.length ≤ 9223372036854775807) (hall : ∀ y ∈ A, 0 ≤ y.kind ∧ y.kind < 256 ∧ y.m.d.size ≤ 9223372036854775807) (hq : q.d.size ≤ 9223372036854775807) :
    Calls Try.prog 5 #[v, q.val] w fun e w' => e = .returned (.bool true) ∧ Below w.heap.size w w' := by
  have hB := Nat.le_refl w.heap.size
  have SZ := Lib.hid (fun y hy => (hall y hy).2.2 : ∀ y ∈ A, y.m.d.size ≤ 9223372036854775807)
  have KB := Lib.hid (fun y hy => ⟨(hall y hy).1, (hall y hy).2.1⟩ : ∀ y ∈ A, 0 ≤ y.kind ∧ y.kind < 256)
  clear hall
  have H := Lib.hid h
  obtain ⟨ao, cap, rfl, hx⟩ := h
  have HX := Lib.hid hx; clear hx
  unfold Mail.val
  cases hg : greatB A with
  | true =>
    go_enter Try.func5, Try.ntmps5
    go_wp2_with fail
    refine (great_any _ _ A (H.out.below ((Below.refl _ _).alloc' hB _) hB) hl SZ.out).mono ?_
    rintro e w1 ⟨rfl, rfl⟩
    rw [hg]
    go_wp2
    go_ret
    exact ⟨rfl, (Below.refl _ _).alloc' hB _⟩
  | false =>
    by_cases hbig : q.d.size ≤ 1000
    · have bx : BoxM (w.alloc (Obj.cells #[.int .i64 q.f, .int .i64 q.t, .string q.d] 31)) w.heap.size q.f q.t q.d :=
        ⟨by simp [go_sem], by simp [go_sem], by simp [go_sem], fun j => by simp [go_sem]⟩
      have BX := Lib.hid bx; clear bx
      go_enter Try.func5, Try.ntmps5
      go_wp2_with fail
      refine (great_any _ _ A (H.out.below ((Below.refl _ _).alloc' hB _) hB) hl SZ.out).mono ?_
      rintro e w1 ⟨rfl, rfl⟩
      rw [hg]
      clear hg
      go_wp2_with fail
      refine (new_any _).mono ?_
      rintro e w1 ⟨rfl, hN, hK⟩
      simp at hN
      have C0 : Hid (CountAt w w1 w.heap.size (w.heap.size + 1) q (.int .i64 0) (.int .i64 0) []) := Lib.hid ⟨hN, Below.step ((Below.refl _ _).alloc' hB _) hB hK (fun _ f => f.elim), BX.out.kept hK (fun f => f), rfl, rfl⟩
      clear hN hK
      have hS : ∀ k, k = w.heap.size + 1 → w.heap.size ≤ k := fun k e => by omega
      have HS := Lib.hid hS; clear hS
      have n1 : ¬ w.heap.size = w.heap.size + 1 := by omega
      have N_1 := Lib.hid n1; clear n1
      go_wp2_with fail
      go_loopg [6, 7, 8] A.length (fun g m o t wr => ∃ k : Nat, k + g = A.length ∧ t = .int .i64 k ∧ ∃ L, CountAt w wr w.heap.size (w.heap.size + 1) q m o L)
      case atStart => exact ⟨0, by omega, rfl, [], C0.out⟩
      case round =>
        obtain ⟨k, hk, rfl, L, hC⟩ := hrel
        obtain ⟨hN, hG, hbx, rfl, rfl⟩ := hC
        have J := Lib.hid hk; have N := Lib.hid hN; have G := Lib.hid hG; have B := Lib.hid hbx
        clear hk hN hG hbx
        have hk2 : k ≤ A.length := by have := J.out; omega
        by_cases hlt : k < A.length
        · rcases HX.out with h0 | ⟨ga, oa, rfl, hc⟩
          · rw [h0] at hlt; simp at hlt
          have hget := List.getElem?_eq_getElem hlt
          obtain ⟨x, hxe⟩ : ∃ x, A[k] = x := ⟨_, rfl⟩
          rw [hxe] at hget
          obtain ⟨k0, k1⟩ := KB.out x (hxe ▸ List.getElem_mem hlt)
          clear hxe
          obtain ⟨c0, c1, c2, c3, c4⟩ := ReadsA.at hc hget
          have q0 : ga < w.heap.size := World.block_lt_of_cell? _ _ c0
          have d0 := (G.out.cell q0).trans c0
          have d1 := (G.out.cell q0).trans c1
          have d2 := (G.out.cell q0).trans c2
          have d3 := (G.out.cell q0).trans c3
          have d4 := (G.out.cell q0).trans c4
          clear c0 c1 c2 c3 c4 hc hget
          have hk9 : 0 ≤ x.kind % 9 := by omega
          have hk10 : x.kind % 9 < 9 := by omega
          obtain ⟨p1, p2, p3, p4⟩ := adds L x q N.out.le hk9 hk10
          have P1 := Lib.hid p1; have P2 := Lib.hid p2; have P3 := Lib.hid p3; have P4 := Lib.hid p4
          clear p1 p2 p3 p4
          obtain ⟨is, his⟩ : ∃ is, inB L x.i = is := ⟨_, rfl⟩
          obtain ⟨ok, hok⟩ : ∃ ok, doneB L x = ok := ⟨_, rfl⟩
          have HI := Lib.hid his; have HO := Lib.hid hok
          clear his hok
          have hs31 := s31
          have hg31 := g31
          have hq31 := eql31
          have i1 : (0 : Int) ≤ (k : Int) := by omega
          have i2 : (k : Int) < (A.length : Int) := by omega
          go_wp2_with fail
          refine (look_b _ _ L x.i N.out is HI.out).mono ?_
          rintro e w2 ⟨rfl, hN, hK⟩
          have N2 := Lib.hid hN; have G2 := Lib.hid (Below.step G.out hB hK (fun _ f => f.elim)); have B2 := Lib.hid (B.out.kept hK (fun f => f))
          have f0 := (hK.cell d0 (fun f => f)); have f1 := (hK.cell d1 (fun f => f)); have f2 := (hK.cell d2 (fun f => f)); have f3 := (hK.cell d3 (fun f => f)); have f4 := (hK.cell d4 (fun f => f))
          have hw2 := hN.lt
          have hga : ga < w2.heap.size := by omega
          clear hN hK d0 d1 d2 d3 d4
          go_wp2_with fail
          refine (done_b _ _ L x (N2.out.kept (S := fun _ => False) ((Kept.refl _ _).alloc _) (fun f => f)) k0 k1 ok HO.out).mono ?_
          rintro e w3 ⟨rfl, hN, hK⟩
          have N3 := Lib.hid hN; have G3 := Lib.hid (Below.step (G2.out.alloc' hB _) hB hK HS.out); have B3 := Lib.hid ((B2.out.kept (S := fun _ => False) ((Kept.refl _ _).alloc _) (fun f => f)).kept hK N_1.out)
          have hga1 : ¬ ga = w.heap.size + 1 := by omega
          have d0 := (hK.cell (v := .int .u8 x.kind) (a := ⟨ga, oa + k * 5, none⟩) (by simp [go_sem, hga, f0]) hga1)
          have d1 := (hK.cell (v := .int .i64 x.m.f) (a := ⟨ga, oa + k * 5 + 1, none⟩) (by simp [go_sem, hga, f1]) hga1)
          have d2 := (hK.cell (v := .int .i64 x.m.t) (a := ⟨ga, oa + k * 5 + 2, none⟩) (by simp [go_sem, hga, f2]) hga1)
          have d3 := (hK.cell (v := .string x.m.d) (a := ⟨ga, oa + k * 5 + 3, none⟩) (by simp [go_sem, hga, f3]) hga1)
          obtain ⟨x0, x1, x2, xf, hw3⟩ := hK.fresh3 (fun e => by have e' : w2.heap.size = w.heap.size + 1 := e; omega)
          have hga3 : ga < w3.heap.size := by omega
          obtain ⟨b0, b1, b2, _⟩ := B3.out
          have hn3 : w.heap.size < w3.heap.size := B3.out.lt
          clear hN hK f0 f1 f2 f3 f4 hga1
          have M3 := Lib.hid (N3.out.many)
          have hLen : (doneL L x).length ≤ 64 := P4.out
          have hcase : ok = false ∨ (ok = true ∧ x.kind % 9 < 4) ∨ (ok = true ∧ x.kind % 9 = 7) ∨ (ok = true ∧ x.kind % 9 = 4) ∨ (ok = true ∧ 4 < x.kind % 9 ∧ ¬ x.kind % 9 = 7) := by
            cases ok
            · exact .inl rfl
            · rcases (show x.kind % 9 < 4 ∨ x.kind % 9 = 7 ∨ x.kind % 9 = 4 ∨ (4 < x.kind % 9 ∧ ¬ x.kind % 9 = 7) by omega) with h | h | h | h
              · exact .inr (.inl ⟨rfl, h⟩)
              · exact .inr (.inr (.inl ⟨rfl, h⟩))
              · exact .inr (.inr (.inr (.inl ⟨rfl, h⟩)))
              · exact .inr (.inr (.inr (.inr ⟨rfl, h⟩)))
          rcases hcase with rfl | ⟨rfl, hc⟩ | ⟨rfl, hc⟩ | ⟨rfl, hc⟩ | ⟨rfl, hc, hc7⟩
          · have ha : addOf L x = 0 := by rw [addOf, if_pos HO.out]
            have hw : wasOf L x = lookM L x.i := by rw [wasOf, if_neg (by rw [HO.out]; simp)]
            have HA := Lib.hid ha; have HW := Lib.hid hw; clear ha hw
            cases hqe : eqM (lookM L x.i) q
            all_goals
              have hcnt := P3.out
              have hlen := P1.out
              rw [HA.out, HW.out, hqe] at hcnt
              rw [HA.out] at hlen
              simp only [Bool.false_eq_true, if_false, if_true, Int.add_zero] at hcnt hlen
              have hl64 : (L.length : Int) ≤ 64 := by have := N.out.le; omega
              have hcl := cnt_le q L
              have hc64 : ((cnt q L : Nat) : Int) ≤ 64 := by omega
              have hd1 : decide ((L.length : Int) < 0) = false := by rw [decide_eq_false_iff_not]; omega
              have hd2 : decide (64 < (L.length : Int)) = false := by rw [decide_eq_false_iff_not]; omega
              have HL := Lib.hid hlen; have HC := Lib.hid hcnt
              clear hlen hcnt hLen hcl
              go_wp2_with fail
              refine (len_z _ _ (doneL L x).length ((L.length : Int)) ?_ HL.out).mono ?_
              · exact M3.out.kept (S := fun k => k = w2.heap.size) (by repeat (first | exact Kept.refl _ _ | apply Kept.alloc | refine Kept.setAt (fun _ => rfl) ?_)) (fun bb hb e => by injection hb with hb; injection hb with hb; injection hb with hb; have e' : bb = w2.heap.size := e; omega)
              rintro e w4 ⟨rfl, rfl⟩
              go_wp2
              go_roundg (gk - 1)
              case measure => have := J.out; omega
              case rel => exact ⟨k + 1, by have := J.out; omega, by go_num, doneL L x, ⟨N3.out.kept (S := fun k => k = w2.heap.size) (by repeat (first | exact Kept.refl _ _ | apply Kept.alloc | refine Kept.setAt (fun _ => rfl) ?_)) (fun e => by have e' : w.heap.size + 1 = w2.heap.size := e; omega), Below.step (S := fun k => k = w2.heap.size) G3.out hB (by repeat (first | exact Kept.refl _ _ | apply Kept.alloc | refine Kept.setAt (fun _ => rfl) ?_)) (fun i e => by have e' : i = w2.heap.size := e; omega), B3.out.kept (S := fun k => k = w2.heap.size) (by repeat (first | exact Kept.refl _ _ | apply Kept.alloc | refine Kept.setAt (fun _ => rfl) ?_)) (fun e => by have e' : w.heap.size = w2.heap.size := e; omega), by rw [HL.out], by rw [HC.out]⟩⟩
          · have ha : addOf L x = 1 := by rw [addOf, if_neg (by rw [HO.out]; simp), if_pos hc]
            have hw : wasOf L x = x.m := by rw [wasOf, if_pos ⟨HO.out, hc⟩]
            have HA := Lib.hid ha; have HW := Lib.hid hw; clear ha hw
            cases hqe : eqM (x.m) q
            all_goals
              have hcnt := P3.out
              have hlen := P1.out
              rw [HA.out, HW.out, hqe] at hcnt
              rw [HA.out] at hlen
              simp only [Bool.false_eq_true, if_false, if_true, Int.add_zero] at hcnt hlen
              have hl64 : (L.length : Int) ≤ 64 := by have := N.out.le; omega
              have hcl := cnt_le q L
              have hc64 : ((cnt q L : Nat) : Int) ≤ 64 := by omega
              have hd1 : decide ((L.length : Int) + 1 < 0) = false := by rw [decide_eq_false_iff_not]; omega
              have hd2 : decide (64 < (L.length : Int) + 1) = false := by rw [decide_eq_false_iff_not]; omega
              have HL := Lib.hid hlen; have HC := Lib.hid hcnt
              clear hlen hcnt hLen hcl
              go_wp2_with fail
              refine (len_z _ _ (doneL L x).length ((L.length : Int) + 1) ?_ HL.out).mono ?_
              · exact M3.out.kept (S := fun k => k = w2.heap.size) (by repeat (first | exact Kept.refl _ _ | apply Kept.alloc | refine Kept.setAt (fun _ => rfl) ?_)) (fun bb hb e => by injection hb with hb; injection hb with hb; injection hb with hb; have e' : bb = w2.heap.size := e; omega)
              rintro e w4 ⟨rfl, rfl⟩
              go_wp2
              go_roundg (gk - 1)
              case measure => have := J.out; omega
              case rel => exact ⟨k + 1, by have := J.out; omega, by go_num, doneL L x, ⟨N3.out.kept (S := fun k => k = w2.heap.size) (by repeat (first | exact Kept.refl _ _ | apply Kept.alloc | refine Kept.setAt (fun _ => rfl) ?_)) (fun e => by have e' : w.heap.size + 1 = w2.heap.size := e; omega), Below.step (S := fun k => k = w2.heap.size) G3.out hB (by repeat (first | exact Kept.refl _ _ | apply Kept.alloc | refine Kept.setAt (fun _ => rfl) ?_)) (fun i e => by have e' : i = w2.heap.size := e; omega), B3.out.kept (S := fun k => k = w2.heap.size) (by repeat (first | exact Kept.refl _ _ | apply Kept.alloc | refine Kept.setAt (fun _ => rfl) ?_)) (fun e => by have e' : w.heap.size = w2.heap.size := e; omega), by rw [HL.out], by rw [HC.out]⟩⟩
          · have ha : addOf L x = 1 := by rw [addOf, if_neg (by rw [HO.out]; simp), if_neg (by omega), if_pos hc]
            have hw : wasOf L x = lookM L x.i := by rw [wasOf, if_neg (by omega)]
            have hi : is = true := by rw [← HI.out]; exact P2.out (by rw [ha]; omega) (by omega)
            subst hi
            have HA := Lib.hid ha; have HW := Lib.hid hw; clear ha hw
            cases hqe : eqM (lookM L x.i) q
            all_goals
              have hcnt := P3.out
              have hlen := P1.out
              rw [HA.out, HW.out, hqe] at hcnt
              rw [HA.out] at hlen
              simp only [Bool.false_eq_true, if_false, if_true, Int.add_zero] at hcnt hlen
              have hl64 : (L.length : Int) ≤ 64 := by have := N.out.le; omega
              have hcl := cnt_le q L
              have hc64 : ((cnt q L : Nat) : Int) ≤ 64 := by omega
              have hd1 : decide ((L.length : Int) + 1 < 0) = false := by rw [decide_eq_false_iff_not]; omega
              have hd2 : decide (64 < (L.length : Int) + 1) = false := by rw [decide_eq_false_iff_not]; omega
              have HL := Lib.hid hlen; have HC := Lib.hid hcnt
              clear hlen hcnt hLen hcl
              go_wp2_with fail
              refine (len_z _ _ (doneL L x).length ((L.length : Int) + 1) ?_ HL.out).mono ?_
              · exact M3.out.kept (S := fun k => k = w2.heap.size) (by repeat (first | exact Kept.refl _ _ | apply Kept.alloc | refine Kept.setAt (fun _ => rfl) ?_)) (fun bb hb e => by injection hb with hb; injection hb with hb; injection hb with hb; have e' : bb = w2.heap.size := e; omega)
              rintro e w4 ⟨rfl, rfl⟩
              go_wp2
              go_roundg (gk - 1)
              case measure => have := J.out; omega
              case rel => exact ⟨k + 1, by have := J.out; omega, by go_num, doneL L x, ⟨N3.out.kept (S := fun k => k = w2.heap.size) (by repeat (first | exact Kept.refl _ _ | apply Kept.alloc | refine Kept.setAt (fun _ => rfl) ?_)) (fun e => by have e' : w.heap.size + 1 = w2.heap.size := e; omega), Below.step (S := fun k => k = w2.heap.size) G3.out hB (by repeat (first | exact Kept.refl _ _ | apply Kept.alloc | refine Kept.setAt (fun _ => rfl) ?_)) (fun i e => by have e' : i = w2.heap.size := e; omega), B3.out.kept (S := fun k => k = w2.heap.size) (by repeat (first | exact Kept.refl _ _ | apply Kept.alloc | refine Kept.setAt (fun _ => rfl) ?_)) (fun e => by have e' : w.heap.size = w2.heap.size := e; omega), by rw [HL.out], by rw [HC.out]⟩⟩
          · have ha : addOf L x = 0 := by rw [addOf, if_neg (by rw [HO.out]; simp), if_neg (by omega), if_neg (by omega), if_pos hc]
            have hw : wasOf L x = lookM L x.i := by rw [wasOf, if_neg (by omega)]
            have HA := Lib.hid ha; have HW := Lib.hid hw; clear ha hw
            cases hqe : eqM (lookM L x.i) q
            all_goals
              have hcnt := P3.out
              have hlen := P1.out
              rw [HA.out, HW.out, hqe] at hcnt
              rw [HA.out] at hlen
              simp only [Bool.false_eq_true, if_false, if_true, Int.add_zero] at hcnt hlen
              have hl64 : (L.length : Int) ≤ 64 := by have := N.out.le; omega
              have hcl := cnt_le q L
              have hc64 : ((cnt q L : Nat) : Int) ≤ 64 := by omega
              have hd1 : decide ((L.length : Int) < 0) = false := by rw [decide_eq_false_iff_not]; omega
              have hd2 : decide (64 < (L.length : Int)) = false := by rw [decide_eq_false_iff_not]; omega
              have HL := Lib.hid hlen; have HC := Lib.hid hcnt
              clear hlen hcnt hLen hcl
              go_wp2_with fail
              refine (len_z _ _ (doneL L x).length ((L.length : Int)) ?_ HL.out).mono ?_
              · exact M3.out.kept (S := fun k => k = w2.heap.size) (by repeat (first | exact Kept.refl _ _ | apply Kept.alloc | refine Kept.setAt (fun _ => rfl) ?_)) (fun bb hb e => by injection hb with hb; injection hb with hb; injection hb with hb; have e' : bb = w2.heap.size := e; omega)
              rintro e w4 ⟨rfl, rfl⟩
              go_wp2
              go_roundg (gk - 1)
              case measure => have := J.out; omega
              case rel => exact ⟨k + 1, by have := J.out; omega, by go_num, doneL L x, ⟨N3.out.kept (S := fun k => k = w2.heap.size) (by repeat (first | exact Kept.refl _ _ | apply Kept.alloc | refine Kept.setAt (fun _ => rfl) ?_)) (fun e => by have e' : w.heap.size + 1 = w2.heap.size := e; omega), Below.step (S := fun k => k = w2.heap.size) G3.out hB (by repeat (first | exact Kept.refl _ _ | apply Kept.alloc | refine Kept.setAt (fun _ => rfl) ?_)) (fun i e => by have e' : i = w2.heap.size := e; omega), B3.out.kept (S := fun k => k = w2.heap.size) (by repeat (first | exact Kept.refl _ _ | apply Kept.alloc | refine Kept.setAt (fun _ => rfl) ?_)) (fun e => by have e' : w.heap.size = w2.heap.size := e; omega), by rw [HL.out], by rw [HC.out]⟩⟩
          · have ha : addOf L x = -1 := by rw [addOf, if_neg (by rw [HO.out]; simp), if_neg (by omega), if_neg (by omega), if_neg (by omega)]
            have hw : wasOf L x = lookM L x.i := by rw [wasOf, if_neg (by omega)]
            have hi : is = true := by rw [← HI.out]; exact P2.out (by rw [ha]; omega) (by omega)
            subst hi
            have hc4 : ((x.kind % 9) != 4) = true := by rw [bne_iff_ne]; omega
            have hc7b : ((x.kind % 9) == 7) = false := by rw [beq_eq_false_iff_ne]; exact hc7
            have hlt4 : ¬ x.kind % 9 < 4 := by omega
            clear hc7
            have HA := Lib.hid ha; have HW := Lib.hid hw; clear ha hw
            cases hqe : eqM (lookM L x.i) q
            all_goals
              have hcnt := P3.out
              have hlen := P1.out
              rw [HA.out, HW.out, hqe] at hcnt
              rw [HA.out] at hlen
              simp only [Bool.false_eq_true, if_false, if_true, Int.add_zero] at hcnt hlen
              have hl64 : (L.length : Int) ≤ 64 := by have := N.out.le; omega
              have hcl := cnt_le q L
              have hc64 : ((cnt q L : Nat) : Int) ≤ 64 := by omega
              have hd1 : decide ((L.length : Int) + -1 < 0) = false := by rw [decide_eq_false_iff_not]; omega
              have hd2 : decide (64 < (L.length : Int) + -1) = false := by rw [decide_eq_false_iff_not]; omega
              have HL := Lib.hid hlen; have HC := Lib.hid hcnt
              clear hlen hcnt hLen hcl
              go_wp2_with fail
              refine (len_z _ _ (doneL L x).length ((L.length : Int) + -1) ?_ HL.out).mono ?_
              · exact M3.out.kept (S := fun k => k = w2.heap.size) (by repeat (first | exact Kept.refl _ _ | apply Kept.alloc | refine Kept.setAt (fun _ => rfl) ?_)) (fun bb hb e => by injection hb with hb; injection hb with hb; injection hb with hb; have e' : bb = w2.heap.size := e; omega)
              rintro e w4 ⟨rfl, rfl⟩
              go_wp2
              go_roundg (gk - 1)
              case measure => have := J.out; omega
              case rel => exact ⟨k + 1, by have := J.out; omega, by go_num, doneL L x, ⟨N3.out.kept (S := fun k => k = w2.heap.size) (by repeat (first | exact Kept.refl _ _ | apply Kept.alloc | refine Kept.setAt (fun _ => rfl) ?_)) (fun e => by have e' : w.heap.size + 1 = w2.heap.size := e; omega), Below.step (S := fun k => k = w2.heap.size) G3.out hB (by repeat (first | exact Kept.refl _ _ | apply Kept.alloc | refine Kept.setAt (fun _ => rfl) ?_)) (fun i e => by have e' : i = w2.heap.size := e; omega), B3.out.kept (S := fun k => k = w2.heap.size) (by repeat (first | exact Kept.refl _ _ | apply Kept.alloc | refine Kept.setAt (fun _ => rfl) ?_)) (fun e => by have e' : w.heap.size = w2.heap.size := e; omega), by rw [HL.out], by rw [HC.out]⟩⟩
        · clear KB SZ HX H
          have hle := N.out.le
          have hcl := cnt_le q L
          go_wp2_with fail
          refine (all_reads _ _ L N.out).mono ?_
          rintro e w2 ⟨a2, cap2, rfl, hR, hnew, hK⟩
          have R2 := Lib.hid hR; have G2 := Lib.hid (Below.step G.out hB hK (fun _ f => f.elim)); have B2 := Lib.hid (B.out.kept hK (fun f => f))
          clear hK hR hnew
          go_wp2_with fail
          go_loopg [7, 16] L.length (fun g o t wr => ∃ i n : Nat, i + g = L.length ∧ t = .int .i64 i ∧ o = .int .i64 (cnt q (L.drop i)) ∧ wr = w2.drewN n)
          case atStart => exact ⟨0, 0, by omega, rfl, rfl, rfl⟩
          case round =>
            obtain ⟨i, n, hi, rfl, rfl, rfl⟩ := hrel
            have I := Lib.hid hi; clear hi
            have hi2 : i ≤ L.length := by have := I.out; omega
            obtain ⟨aa, capa, hv, hr2⟩ := R2.out
            by_cases hlt2 : i < L.length
            · rcases hr2 with h0 | ⟨gb, ob, hab, hcb⟩
              · rw [h0] at hlt2; simp at hlt2
              injection hv with hv1 hv2 hv3
              rw [hab] at hv1
              subst hv1
              obtain ⟨m0, m1, m2⟩ := Reads.at hcb (List.getElem?_eq_getElem hlt2)
              obtain ⟨b0, b1, b2, _⟩ := B2.out
              clear hcb hab hv2 hv3
              have hd := List.drop_eq_getElem_cons hlt2
              have hcd : cnt q (L.drop i) = (if eqM L[i] q = true then 1 else 0) + cnt q (L.drop (i + 1)) := by rw [hd]; rfl
              have hcl2 : cnt q (L.drop i) ≤ 64 := by have := cnt_le q (L.drop i); rw [List.length_drop] at this; omega
              have i1 : (0 : Int) ≤ (i : Int) := by omega
              have i2 : (i : Int) < (L.length : Int) := by omega
              have hs31 := s31
              have hg31 := g31
              have hq31 := eql31
              cases hqe : eqM L[i] q
              all_goals
                rw [hqe] at hcd
                simp only [Bool.false_eq_true, if_false, if_true, Nat.zero_add] at hcd
                have HC := Lib.hid hcd; clear hcd hd
                go_wp2_with fail
                go_quiet (fail)
                go_wp2
                go_roundg (gk - 1)
                case measure => have := I.out; omega
                case rel => exact ⟨i + 1, _, by have := I.out; omega, by go_num, by rw [HC.out]; try (rw [show ((1 + cnt q (L.drop (i + 1)) : Nat) : Int) - 1 = ((cnt q (L.drop (i + 1)) : Nat) : Int) by omega]), rfl⟩
            · have hz : cnt q (L.drop i) = 0 := by rw [List.drop_of_length_le (by omega)]; rfl
              have HZ := Lib.hid hz; clear hz
              rw [HZ.out]
              clear hr2 hv
              go_wp2_with fail
              refine (does_any _).mono ?_
              rintro e w3 ⟨rfl, hK⟩
              go_wp2
              go_ret
              exact ⟨rfl, Below.step (G2.out.drewN' _) hB hK (fun _ f => f.elim)⟩
    · go_enter Try.func5, Try.ntmps5
      go_wp2_with fail
      refine (great_any _ _ A (H.out.below ((Below.refl _ _).alloc' hB _) hB) hl SZ.out).mono ?_
      rintro e w1 ⟨rfl, rfl⟩
      rw [hg]
      clear hg
      go_wp2
      go_ret
      exact ⟨rfl, (Below.refl _ _).alloc' hB _⟩
end Go.Proofs.Ytgafedmabaeemaa
