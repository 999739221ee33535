/- The walks over the law's own helpers: what is done with the reference's net. -/
import Derived.Test.YtgafedmabaeemaaRefE
namespace Go.Proofs.Ytgafedmabaeemaa
open Go.RowKit

set_option maxHeartbeats 2000000 in
theorem said_look (w : World) (base r : Nat) (v : Value) (L : List Mail) (x : Act') (h : RefOk w base r v L) (_hb : base ≤ w.heap.size) (h0 : 0 ≤ x.kind) (h1 : x.kind < 256) (hk : x.kind % 9 = 4) :
    Calls Try.prog 12 #[.pointer (some ⟨r, 0, none⟩), x.val] w fun e w' => e = .returned (.tuple #[(lookM L x.i).val, .bool (inB L x.i)]) ∧ RefNow w w' base r v (L) := by
  have hlt := h.lt
  have H := Lib.hid h; clear h
  obtain ⟨m, hm⟩ : ∃ m, lookM L x.i = m := ⟨_, rfl⟩
  rw [hm]
  have HM := Lib.hid hm; clear hm
  have n1 : ¬ RefS r v (w.heap.size + 1) := not_refS (by omega) (fun e => by have := (H.out.row.lt _ e).2; omega)
  unfold Act'.val
  go_enter Try.func12, Try.ntmps12
  go_wp2_with fail
  refine (rlook_any _ base r v L x.i (H.out.kept (((Kept.refl (fun _ => False) _).alloc _).alloc _) (fun f => f) (fun _ _ f => f))).mono ?_
  rintro e w1 ⟨rfl, hR⟩
  rw [HM.out]
  have hR := RefNow.same (H.out.kept (((Kept.refl (fun _ => False) w).alloc _).alloc _) (fun f => f) (fun _ _ f => f)) hR
  obtain ⟨c0, c1, c2, fz⟩ := hR.kept.cells3 (n := w.heap.size + 1) n1 (x := .int .i64 0) (y := .int .i64 0) (z := .string ⟨#[]⟩) (by simp [go_sem]) (by simp [go_sem]) (by simp [go_sem]) (by simp [go_sem])
  have R2 := Lib.hid hR; clear hR
  unfold Mail.val
  go_wp2
  refine bodyPost_ret (v := .tuple #[Mail.val m, .bool _]) (by simp [results, Try.results12, go_sem, c0, c1, c2]; rfl) rfl ⟨rfl, ?_⟩
  refine RefNow.around (S := fun k => k = w.heap.size + 1) H.out (((Kept.refl (fun _ => False) w).alloc _).alloc _) R2.out ?_ (fun k hk => ⟨by omega, by simp; omega⟩)
  repeat (first | exact Kept.refl _ _ | refine Kept.setAt (fun _ => rfl) ?_)


set_option maxHeartbeats 2000000 in
theorem said_take5 (w : World) (base r : Nat) (v : Value) (L : List Mail) (x : Act') (h : RefOk w base r v L) (hb : base ≤ w.heap.size) (h0 : 0 ≤ x.kind) (h1 : x.kind < 256) (hk : x.kind % 9 = 5) :
    Calls Try.prog 12 #[.pointer (some ⟨r, 0, none⟩), x.val] w fun e w' => e = .returned (.tuple #[(lookM L x.i).val, .bool (inB L x.i)]) ∧ RefNow w w' base r v (delL L x.i) := by
  have hlt := h.lt
  have H := Lib.hid h; clear h
  obtain ⟨m, hm⟩ : ∃ m, lookM L x.i = m := ⟨_, rfl⟩
  rw [hm]
  have HM := Lib.hid hm; clear hm
  have n1 : ¬ RefS r v (w.heap.size + 1) := not_refS (by omega) (fun e => by have := (H.out.row.lt _ e).2; omega)
  unfold Act'.val
  go_enter Try.func12, Try.ntmps12
  go_wp2_with fail
  refine (rtake_any _ base r v L x.i (H.out.kept (((Kept.refl (fun _ => False) _).alloc _).alloc _) (fun f => f) (fun _ _ f => f)) (by simp; omega)).mono ?_
  rintro e w1 ⟨rfl, hR⟩
  rw [HM.out]
  obtain ⟨c0, c1, c2, fz⟩ := hR.kept.cells3 (n := w.heap.size + 1) n1 (x := .int .i64 0) (y := .int .i64 0) (z := .string ⟨#[]⟩) (by simp [go_sem]) (by simp [go_sem]) (by simp [go_sem]) (by simp [go_sem])
  have R2 := Lib.hid hR; clear hR
  unfold Mail.val
  go_wp2
  refine bodyPost_ret (v := .tuple #[Mail.val m, .bool _]) (by simp [results, Try.results12, go_sem, c0, c1, c2]; rfl) rfl ⟨rfl, ?_⟩
  refine RefNow.around (S := fun k => k = w.heap.size + 1) H.out (((Kept.refl (fun _ => False) w).alloc _).alloc _) R2.out ?_ (fun k hk => ⟨by omega, by simp; omega⟩)
  repeat (first | exact Kept.refl _ _ | refine Kept.setAt (fun _ => rfl) ?_)


set_option maxHeartbeats 2000000 in
theorem said_take6 (w : World) (base r : Nat) (v : Value) (L : List Mail) (x : Act') (h : RefOk w base r v L) (hb : base ≤ w.heap.size) (h0 : 0 ≤ x.kind) (h1 : x.kind < 256) (hk : x.kind % 9 = 6) :
    Calls Try.prog 12 #[.pointer (some ⟨r, 0, none⟩), x.val] w fun e w' => e = .returned (.tuple #[(lookM L x.i).val, .bool (inB L x.i)]) ∧ RefNow w w' base r v (delL L x.i) := by
  have hlt := h.lt
  have H := Lib.hid h; clear h
  obtain ⟨m, hm⟩ : ∃ m, lookM L x.i = m := ⟨_, rfl⟩
  rw [hm]
  have HM := Lib.hid hm; clear hm
  have n1 : ¬ RefS r v (w.heap.size + 1) := not_refS (by omega) (fun e => by have := (H.out.row.lt _ e).2; omega)
  unfold Act'.val
  go_enter Try.func12, Try.ntmps12
  go_wp2_with fail
  refine (rtake_any _ base r v L x.i (H.out.kept (((Kept.refl (fun _ => False) _).alloc _).alloc _) (fun f => f) (fun _ _ f => f)) (by simp; omega)).mono ?_
  rintro e w1 ⟨rfl, hR⟩
  rw [HM.out]
  obtain ⟨c0, c1, c2, fz⟩ := hR.kept.cells3 (n := w.heap.size + 1) n1 (x := .int .i64 0) (y := .int .i64 0) (z := .string ⟨#[]⟩) (by simp [go_sem]) (by simp [go_sem]) (by simp [go_sem]) (by simp [go_sem])
  have R2 := Lib.hid hR; clear hR
  unfold Mail.val
  go_wp2
  refine bodyPost_ret (v := .tuple #[Mail.val m, .bool _]) (by simp [results, Try.results12, go_sem, c0, c1, c2]; rfl) rfl ⟨rfl, ?_⟩
  refine RefNow.around (S := fun k => k = w.heap.size + 1) H.out (((Kept.refl (fun _ => False) w).alloc _).alloc _) R2.out ?_ (fun k hk => ⟨by omega, by simp; omega⟩)
  repeat (first | exact Kept.refl _ _ | refine Kept.setAt (fun _ => rfl) ?_)


set_option maxHeartbeats 2000000 in
theorem said_double (w : World) (base r : Nat) (v : Value) (L : List Mail) (x : Act') (h : RefOk w base r v L) (hb : base ≤ w.heap.size) (h0 : 0 ≤ x.kind) (h1 : x.kind < 256) (hk : x.kind % 9 = 7) :
    Calls Try.prog 12 #[.pointer (some ⟨r, 0, none⟩), x.val] w fun e w' => e = .returned (.tuple #[(Mail.zero).val, .bool (dupB L x.i)]) ∧ RefNow w w' base r v (dupL L x.i) := by
  have hlt := h.lt
  have H := Lib.hid h; clear h
  rw [zero_val]
  have n1 : ¬ RefS r v (w.heap.size + 1) := not_refS (by omega) (fun e => by have := (H.out.row.lt _ e).2; omega)
  unfold Act'.val
  go_enter Try.func12, Try.ntmps12
  go_wp2_with fail
  refine (rdouble_any _ base r v L x.i (H.out.kept (((Kept.refl (fun _ => False) _).alloc _).alloc _) (fun f => f) (fun _ _ f => f)) (by simp; omega)).mono ?_
  rintro e w1 ⟨rfl, hR⟩
  obtain ⟨c0, c1, c2, fz⟩ := hR.kept.cells3 (n := w.heap.size + 1) n1 (x := .int .i64 0) (y := .int .i64 0) (z := .string ⟨#[]⟩) (by simp [go_sem]) (by simp [go_sem]) (by simp [go_sem]) (by simp [go_sem])
  have R2 := Lib.hid hR; clear hR
  go_wp2
  refine bodyPost_ret (v := .tuple #[.agg #[.int .i64 0, .int .i64 0, .string ⟨#[]⟩], .bool _]) (by simp [results, Try.results12, go_sem, c0, c1, c2]) rfl ⟨rfl, ?_⟩
  refine RefNow.around (S := fun k => k = w.heap.size + 1) H.out (((Kept.refl (fun _ => False) w).alloc _).alloc _) R2.out ?_ (fun k hk => ⟨by omega, by simp; omega⟩)
  repeat (first | exact Kept.refl _ _ | refine Kept.setAt (fun _ => rfl) ?_)


set_option maxHeartbeats 2000000 in
theorem said_lose (w : World) (base r : Nat) (v : Value) (L : List Mail) (x : Act') (h : RefOk w base r v L) (hb : base ≤ w.heap.size) (h0 : 0 ≤ x.kind) (h1 : x.kind < 256) (hk : x.kind % 9 = 8) :
    Calls Try.prog 12 #[.pointer (some ⟨r, 0, none⟩), x.val] w fun e w' => e = .returned (.tuple #[(Mail.zero).val, .bool (inB L x.i)]) ∧ RefNow w w' base r v (delL L x.i) := by
  have hlt := h.lt
  have H := Lib.hid h; clear h
  rw [zero_val]
  have n1 : ¬ RefS r v (w.heap.size + 1) := not_refS (by omega) (fun e => by have := (H.out.row.lt _ e).2; omega)
  unfold Act'.val
  go_enter Try.func12, Try.ntmps12
  go_wp2_with fail
  refine (rlose_any _ base r v L x.i (H.out.kept (((Kept.refl (fun _ => False) _).alloc _).alloc _) (fun f => f) (fun _ _ f => f)) (by simp; omega)).mono ?_
  rintro e w1 ⟨rfl, hR⟩
  obtain ⟨c0, c1, c2, fz⟩ := hR.kept.cells3 (n := w.heap.size + 1) n1 (x := .int .i64 0) (y := .int .i64 0) (z := .string ⟨#[]⟩) (by simp [go_sem]) (by simp [go_sem]) (by simp [go_sem]) (by simp [go_sem])
  have R2 := Lib.hid hR; clear hR
  go_wp2
  refine bodyPost_ret (v := .tuple #[.agg #[.int .i64 0, .int .i64 0, .string ⟨#[]⟩], .bool _]) (by simp [results, Try.results12, go_sem, c0, c1, c2]) rfl ⟨rfl, ?_⟩
  refine RefNow.around (S := fun k => k = w.heap.size + 1) H.out (((Kept.refl (fun _ => False) w).alloc _).alloc _) R2.out ?_ (fun k hk => ⟨by omega, by simp; omega⟩)
  repeat (first | exact Kept.refl _ _ | refine Kept.setAt (fun _ => rfl) ?_)


set_option maxHeartbeats 2000000 in
theorem said_send (w : World) (base r : Nat) (v : Value) (L : List Mail) (x : Act') (h : RefOk w base r v L) (hb : base ≤ w.heap.size) (h0 : 0 ≤ x.kind) (h1 : x.kind < 256) (hk : x.kind % 9 < 4) :
    Calls Try.prog 12 #[.pointer (some ⟨r, 0, none⟩), x.val] w fun e w' => e = .returned (.tuple #[(Mail.zero).val, .bool (roomB L)]) ∧ RefNow w w' base r v (sendL L x.m) := by
  have hlt := h.lt
  have H := Lib.hid h; clear h
  rw [zero_val]
  have hk1 : 0 ≤ x.kind % 9 := by omega
  have n1 : ¬ RefS r v (w.heap.size + 1) := not_refS (by omega) (fun e => by have := (H.out.row.lt _ e).2; omega)
  unfold Act'.val
  go_enter Try.func12, Try.ntmps12
  go_wp2_with fail
  refine (rsend_at _ base r v L x.m (H.out.kept (((Kept.refl (fun _ => False) _).alloc _).alloc _) (fun f => f) (fun _ _ f => f)) (by simp; omega)).mono ?_
  rintro e w1 ⟨rfl, hR⟩
  obtain ⟨c0, c1, c2, fz⟩ := hR.kept.cells3 (n := w.heap.size + 1) n1 (x := .int .i64 0) (y := .int .i64 0) (z := .string ⟨#[]⟩) (by simp [go_sem]) (by simp [go_sem]) (by simp [go_sem]) (by simp [go_sem])
  have R2 := Lib.hid hR; clear hR
  go_wp2
  refine bodyPost_ret (v := .tuple #[.agg #[.int .i64 0, .int .i64 0, .string ⟨#[]⟩], .bool _]) (by simp [results, Try.results12, go_sem, c0, c1, c2]) rfl ⟨rfl, ?_⟩
  refine RefNow.around (S := fun k => k = w.heap.size + 1) H.out (((Kept.refl (fun _ => False) w).alloc _).alloc _) R2.out ?_ (fun k hk => ⟨by omega, by simp; omega⟩)
  repeat (first | exact Kept.refl _ _ | refine Kept.setAt (fun _ => rfl) ?_)


theorem said_any (w : World) (base r : Nat) (v : Value) (L : List Mail) (x : Act') (h : RefOk w base r v L) (hb : base ≤ w.heap.size) (h0 : 0 ≤ x.kind) (h1 : x.kind < 256) :
    Calls Try.prog 12 #[.pointer (some ⟨r, 0, none⟩), x.val] w fun e w' => e = .returned (.tuple #[(doneM L x).val, .bool (doneB L x)]) ∧ RefNow w w' base r v (doneL L x) := by
  have hlt : x.kind % 9 < 4 ∨ x.kind % 9 = 4 ∨ x.kind % 9 = 5 ∨ x.kind % 9 = 6 ∨ x.kind % 9 = 7 ∨ x.kind % 9 = 8 := by omega
  rcases hlt with hk | hk | hk | hk | hk | hk
  · have e1 : doneM L x = Mail.zero := by rw [doneM, if_neg (by omega)]
    have e2 : doneB L x = roomB L := by rw [doneB, if_neg (by omega), if_neg (by omega)]
    have e3 : doneL L x = sendL L x.m := by rw [doneL, if_neg (by omega), if_neg (by omega), if_neg (by omega)]
    rw [e1, e2, e3]; exact said_send w base r v L x h hb h0 h1 hk
  · have e1 : doneM L x = lookM L x.i := by rw [doneM, if_pos (by omega)]
    have e2 : doneB L x = inB L x.i := by rw [doneB, if_pos (by omega)]
    have e3 : doneL L x = L := by rw [doneL, if_pos (by omega)]
    rw [e1, e2, e3]; exact said_look w base r v L x h hb h0 h1 hk
  · have e1 : doneM L x = lookM L x.i := by rw [doneM, if_pos (by omega)]
    have e2 : doneB L x = inB L x.i := by rw [doneB, if_pos (by omega)]
    have e3 : doneL L x = delL L x.i := by rw [doneL, if_neg (by omega), if_pos (by omega)]
    rw [e1, e2, e3]; exact said_take5 w base r v L x h hb h0 h1 hk
  · have e1 : doneM L x = lookM L x.i := by rw [doneM, if_pos (by omega)]
    have e2 : doneB L x = inB L x.i := by rw [doneB, if_pos (by omega)]
    have e3 : doneL L x = delL L x.i := by rw [doneL, if_neg (by omega), if_pos (by omega)]
    rw [e1, e2, e3]; exact said_take6 w base r v L x h hb h0 h1 hk
  · have e1 : doneM L x = Mail.zero := by rw [doneM, if_neg (by omega)]
    have e2 : doneB L x = dupB L x.i := by rw [doneB, if_neg (by omega), if_pos (by omega)]
    have e3 : doneL L x = dupL L x.i := by rw [doneL, if_neg (by omega), if_neg (by omega), if_pos (by omega)]
    rw [e1, e2, e3]; exact said_double w base r v L x h hb h0 h1 hk
  · have e1 : doneM L x = Mail.zero := by rw [doneM, if_neg (by omega)]
    have e2 : doneB L x = inB L x.i := by rw [doneB, if_pos (by omega)]
    have e3 : doneL L x = delL L x.i := by rw [doneL, if_neg (by omega), if_pos (by omega)]
    rw [e1, e2, e3]; exact said_lose w base r v L x h hb h0 h1 hk

end Go.Proofs.Ytgafedmabaeemaa
