/- The walks over the law's own helpers, second part: what is done with a net. -/
import Derived.Test.YtgafedmabaeemaaLawA
namespace Go.Proofs.Ytgafedmabaeemaa
open Go.RowKit

/-- Is there such a place? -/
def inR (L : List Mail) (i : Int) : Prop := 0 ≤ i ∧ i < L.length
instance (L : List Mail) (i : Int) : Decidable (inR L i) := by unfold inR; exact inferInstance
def inB (L : List Mail) (i : Int) : Bool := decide (inR L i)
def lookM (L : List Mail) (i : Int) : Mail := if inR L i then L.getD i.toNat Mail.zero else Mail.zero
def delL (L : List Mail) (i : Int) : List Mail := if inR L i then L.eraseIdx i.toNat else L
def dupB (L : List Mail) (i : Int) : Bool := inB L i && roomB L
def dupL (L : List Mail) (i : Int) : List Mail := if inR L i then putL L (i.toNat + 1) (lookM L i) else L

theorem inR_nat {L : List Mail} {i : Int} (h : inR L i) : ∃ n : Nat, i = n ∧ n < L.length ∧ i.toNat = n ∧ L[n]? = some (lookM L i) := by
  obtain ⟨h1, h2⟩ := h
  refine ⟨i.toNat, by omega, by omega, rfl, ?_⟩
  rw [lookM, if_pos ⟨h1, h2⟩, List.getD_eq_getElem?_getD, List.getElem?_eq_getElem (by omega)]; rfl
theorem not_inR {L : List Mail} {i : Int} (h : ¬ inR L i) : i < 0 ∨ (L.length : Int) ≤ i := by unfold inR at h; omega

theorem look_any (w : World) (b : Nat) (L : List Mail) (i : Int) (h : NetOk w b L) :
    Calls Try.prog 17 #[.pointer (some ⟨b, 0, none⟩), .int .i64 i] w fun e w' => e = .returned (.tuple #[(lookM L i).val, .bool (inB L i)]) ∧ NetOk w' b L ∧ Kept (fun _ => False) w w' := by
  by_cases hi : inR L i
  · obtain ⟨n, rfl, hn, _, hm⟩ := inR_nat hi
    refine (look_at w b L n _ h hm).mono fun e w' ⟨h1, h2⟩ => ⟨by rw [h1, inB, decide_eq_true hi], h.kept h2 (fun f => f), h2⟩
  · refine (look_no w _ L.length i h.many (not_inR hi)).mono fun e w' ⟨h1, h2⟩ => ⟨by rw [h1, inB, decide_eq_false hi, lookM, if_neg hi], h.kept h2 (fun f => f), h2⟩
theorem lose_any (w : World) (b : Nat) (L : List Mail) (i : Int) (h : NetOk w b L) :
    Calls Try.prog 19 #[.pointer (some ⟨b, 0, none⟩), .int .i64 i] w fun e w' => e = .returned (.bool (inB L i)) ∧ NetOk w' b (delL L i) ∧ Kept (fun k => k = b) w w' := by
  by_cases hi : inR L i
  · obtain ⟨n, rfl, hn, _, hm⟩ := inR_nat hi
    refine (lose_yes w b L n h hn).mono fun e w' ⟨h1, h2, h3⟩ => ⟨by rw [h1, inB, decide_eq_true hi], by rw [delL, if_pos hi]; exact h2, h3⟩
  · refine (lose_no w _ L.length i h.many (not_inR hi)).mono fun e w' ⟨h1, h2⟩ => ⟨by rw [h1, inB, decide_eq_false hi], by rw [← h2, delL, if_neg hi]; exact h, by rw [← h2]; exact Kept.refl _ _⟩
theorem take_any (w : World) (b : Nat) (L : List Mail) (i : Int) (h : NetOk w b L) :
    Calls Try.prog 20 #[.pointer (some ⟨b, 0, none⟩), .int .i64 i] w fun e w' => e = .returned (.tuple #[(lookM L i).val, .bool (inB L i)]) ∧ NetOk w' b (delL L i) ∧ Kept (fun k => k = b) w w' := by
  by_cases hi : inR L i
  · obtain ⟨n, rfl, hn, _, hm⟩ := inR_nat hi
    refine (take_at w b L n _ h hm).mono fun e w' ⟨h1, h2, h3⟩ => ⟨by rw [h1, inB, decide_eq_true hi], by rw [delL, if_pos hi]; exact h2, h3⟩
  · refine (take_no w _ L.length i h.many (not_inR hi)).mono fun e w' ⟨h1, h2⟩ => ⟨by rw [h1, inB, decide_eq_false hi, lookM, if_neg hi], by rw [delL, if_neg hi]; exact h.kept h2 (fun f => f), h2.mono (fun _ _ f => f.elim)⟩
theorem double_any (w : World) (b : Nat) (L : List Mail) (i : Int) (h : NetOk w b L) :
    Calls Try.prog 18 #[.pointer (some ⟨b, 0, none⟩), .int .i64 i] w fun e w' => e = .returned (.bool (dupB L i)) ∧ NetOk w' b (dupL L i) ∧ Kept (fun k => k = b) w w' := by
  by_cases hi : inR L i
  · obtain ⟨n, rfl, hn, _, hm⟩ := inR_nat hi
    refine (double_at w b L n _ h hm).mono fun e w' ⟨h1, h2, h3⟩ => ⟨by rw [h1, dupB, inB, decide_eq_true hi]; rfl, by rw [dupL, if_pos hi]; exact h2, h3⟩
  · refine (double_no w _ L.length i h.many (not_inR hi)).mono fun e w' ⟨h1, h2⟩ => ⟨by rw [h1, dupB, inB, decide_eq_false hi]; rfl, by rw [← h2, dupL, if_neg hi]; exact h, by rw [← h2]; exact Kept.refl _ _⟩

/-- What an act answers, and leaves. -/
def doneM (L : List Mail) (x : Act') : Mail := if x.kind % 9 = 4 ∨ x.kind % 9 = 5 ∨ x.kind % 9 = 6 then lookM L x.i else Mail.zero
def doneB (L : List Mail) (x : Act') : Bool := if x.kind % 9 = 4 ∨ x.kind % 9 = 5 ∨ x.kind % 9 = 6 ∨ x.kind % 9 = 8 then inB L x.i else if x.kind % 9 = 7 then dupB L x.i else roomB L
def doneL (L : List Mail) (x : Act') : List Mail := if x.kind % 9 = 4 then L else if x.kind % 9 = 5 ∨ x.kind % 9 = 6 ∨ x.kind % 9 = 8 then delL L x.i else if x.kind % 9 = 7 then dupL L x.i else sendL L x.m

def Act'.val (x : Act') : Value := .agg #[.int .u8 x.kind, .int .i64 x.m.f, .int .i64 x.m.t, .string x.m.d, .int .i64 x.i]

set_option maxHeartbeats 2000000 in
theorem done_look (w : World) (b : Nat) (L : List Mail) (x : Act') (h : NetOk w b L) (h0 : 0 ≤ x.kind) (h1 : x.kind < 256) (hk : x.kind % 9 = 4) :
    Calls Try.prog 11 #[.pointer (some ⟨b, 0, none⟩), x.val] w fun e w' => e = .returned (.tuple #[(lookM L x.i).val, .bool (inB L x.i)]) ∧ NetOk w' b (L) ∧ Kept (fun k => k = b) w w' := by
  have hb := h.lt
  have H := Lib.hid h; clear h
  obtain ⟨m, hm⟩ : ∃ m, lookM L x.i = m := ⟨_, rfl⟩
  rw [hm]
  have HM := Lib.hid hm; clear hm
  have n1 : ¬ w.heap.size + 1 = b := by omega
  unfold Act'.val
  go_enter Try.func11, Try.ntmps11
  go_wp2_with fail
  refine (look_any _ b L x.i (H.out.kept (((Kept.refl (fun _ => False) _).alloc _).alloc _) (fun f => f))).mono ?_
  rintro e w1 ⟨rfl, h2, hK⟩
  rw [HM.out]
  obtain ⟨c0, c1, c2, fz⟩ := hK.cells3 (n := w.heap.size + 1) (by first | exact n1 | exact fun f => f) (x := .int .i64 0) (y := .int .i64 0) (z := .string ⟨#[]⟩) (by simp [go_sem]) (by simp [go_sem]) (by simp [go_sem]) (by simp [go_sem])
  have N2 := Lib.hid h2; have K2 := Lib.hid hK; clear h2 hK
  unfold Mail.val
  go_wp2
  refine bodyPost_ret (v := .tuple #[Mail.val m, .bool _]) (by simp [results, Try.results11, go_sem, c0, c1, c2]; rfl) rfl ⟨rfl, ?_, ?_⟩
  · exact N2.out.kept (S := fun k => k = w.heap.size + 1) (by repeat (first | exact Kept.refl _ _ | refine Kept.setAt (fun _ => rfl) ?_)) (by omega)
  · have k2 : Kept (fun k => k = b) w w1 := (((Kept.refl (fun k => k = b) w).alloc _).alloc _).trans K2.out (fun _ _ f => f) (fun _ _ f => by first | exact f | exact f.elim)
    exact ((k2.setCell (fun hh => absurd hh (by simp)) _).setCell (fun hh => absurd hh (by simp)) _).setCell (fun hh => absurd hh (by simp)) _

set_option maxHeartbeats 2000000 in
theorem done_take5 (w : World) (b : Nat) (L : List Mail) (x : Act') (h : NetOk w b L) (h0 : 0 ≤ x.kind) (h1 : x.kind < 256) (hk : x.kind % 9 = 5) :
    Calls Try.prog 11 #[.pointer (some ⟨b, 0, none⟩), x.val] w fun e w' => e = .returned (.tuple #[(lookM L x.i).val, .bool (inB L x.i)]) ∧ NetOk w' b (delL L x.i) ∧ Kept (fun k => k = b) w w' := by
  have hb := h.lt
  have H := Lib.hid h; clear h
  obtain ⟨m, hm⟩ : ∃ m, lookM L x.i = m := ⟨_, rfl⟩
  rw [hm]
  have HM := Lib.hid hm; clear hm
  have n1 : ¬ w.heap.size + 1 = b := by omega
  unfold Act'.val
  go_enter Try.func11, Try.ntmps11
  go_wp2_with fail
  refine (take_any _ b L x.i (H.out.kept (((Kept.refl (fun _ => False) _).alloc _).alloc _) (fun f => f))).mono ?_
  rintro e w1 ⟨rfl, h2, hK⟩
  rw [HM.out]
  obtain ⟨c0, c1, c2, fz⟩ := hK.cells3 (n := w.heap.size + 1) (by first | exact n1 | exact fun f => f) (x := .int .i64 0) (y := .int .i64 0) (z := .string ⟨#[]⟩) (by simp [go_sem]) (by simp [go_sem]) (by simp [go_sem]) (by simp [go_sem])
  have N2 := Lib.hid h2; have K2 := Lib.hid hK; clear h2 hK
  unfold Mail.val
  go_wp2
  refine bodyPost_ret (v := .tuple #[Mail.val m, .bool _]) (by simp [results, Try.results11, go_sem, c0, c1, c2]; rfl) rfl ⟨rfl, ?_, ?_⟩
  · exact N2.out.kept (S := fun k => k = w.heap.size + 1) (by repeat (first | exact Kept.refl _ _ | refine Kept.setAt (fun _ => rfl) ?_)) (by omega)
  · have k2 : Kept (fun k => k = b) w w1 := (((Kept.refl (fun k => k = b) w).alloc _).alloc _).trans K2.out (fun _ _ f => f) (fun _ _ f => by first | exact f | exact f.elim)
    exact ((k2.setCell (fun hh => absurd hh (by simp)) _).setCell (fun hh => absurd hh (by simp)) _).setCell (fun hh => absurd hh (by simp)) _

set_option maxHeartbeats 2000000 in
theorem done_take6 (w : World) (b : Nat) (L : List Mail) (x : Act') (h : NetOk w b L) (h0 : 0 ≤ x.kind) (h1 : x.kind < 256) (hk : x.kind % 9 = 6) :
    Calls Try.prog 11 #[.pointer (some ⟨b, 0, none⟩), x.val] w fun e w' => e = .returned (.tuple #[(lookM L x.i).val, .bool (inB L x.i)]) ∧ NetOk w' b (delL L x.i) ∧ Kept (fun k => k = b) w w' := by
  have hb := h.lt
  have H := Lib.hid h; clear h
  obtain ⟨m, hm⟩ : ∃ m, lookM L x.i = m := ⟨_, rfl⟩
  rw [hm]
  have HM := Lib.hid hm; clear hm
  have n1 : ¬ w.heap.size + 1 = b := by omega
  unfold Act'.val
  go_enter Try.func11, Try.ntmps11
  go_wp2_with fail
  refine (take_any _ b L x.i (H.out.kept (((Kept.refl (fun _ => False) _).alloc _).alloc _) (fun f => f))).mono ?_
  rintro e w1 ⟨rfl, h2, hK⟩
  rw [HM.out]
  obtain ⟨c0, c1, c2, fz⟩ := hK.cells3 (n := w.heap.size + 1) (by first | exact n1 | exact fun f => f) (x := .int .i64 0) (y := .int .i64 0) (z := .string ⟨#[]⟩) (by simp [go_sem]) (by simp [go_sem]) (by simp [go_sem]) (by simp [go_sem])
  have N2 := Lib.hid h2; have K2 := Lib.hid hK; clear h2 hK
  unfold Mail.val
  go_wp2
  refine bodyPost_ret (v := .tuple #[Mail.val m, .bool _]) (by simp [results, Try.results11, go_sem, c0, c1, c2]; rfl) rfl ⟨rfl, ?_, ?_⟩
  · exact N2.out.kept (S := fun k => k = w.heap.size + 1) (by repeat (first | exact Kept.refl _ _ | refine Kept.setAt (fun _ => rfl) ?_)) (by omega)
  · have k2 : Kept (fun k => k = b) w w1 := (((Kept.refl (fun k => k = b) w).alloc _).alloc _).trans K2.out (fun _ _ f => f) (fun _ _ f => by first | exact f | exact f.elim)
    exact ((k2.setCell (fun hh => absurd hh (by simp)) _).setCell (fun hh => absurd hh (by simp)) _).setCell (fun hh => absurd hh (by simp)) _

set_option maxHeartbeats 2000000 in
theorem done_double (w : World) (b : Nat) (L : List Mail) (x : Act') (h : NetOk w b L) (h0 : 0 ≤ x.kind) (h1 : x.kind < 256) (hk : x.kind % 9 = 7) :
    Calls Try.prog 11 #[.pointer (some ⟨b, 0, none⟩), x.val] w fun e w' => e = .returned (.tuple #[(Mail.zero).val, .bool (dupB L x.i)]) ∧ NetOk w' b (dupL L x.i) ∧ Kept (fun k => k = b) w w' := by
  have hb := h.lt
  have H := Lib.hid h; clear h
  rw [zero_val]
  have n1 : ¬ w.heap.size + 1 = b := by omega
  unfold Act'.val
  go_enter Try.func11, Try.ntmps11
  go_wp2_with fail
  refine (double_any _ b L x.i (H.out.kept (((Kept.refl (fun _ => False) _).alloc _).alloc _) (fun f => f))).mono ?_
  rintro e w1 ⟨rfl, h2, hK⟩
  obtain ⟨c0, c1, c2, fz⟩ := hK.cells3 (n := w.heap.size + 1) (by first | exact n1 | exact fun f => f) (x := .int .i64 0) (y := .int .i64 0) (z := .string ⟨#[]⟩) (by simp [go_sem]) (by simp [go_sem]) (by simp [go_sem]) (by simp [go_sem])
  have N2 := Lib.hid h2; have K2 := Lib.hid hK; clear h2 hK
  go_wp2
  refine bodyPost_ret (v := .tuple #[.agg #[.int .i64 0, .int .i64 0, .string ⟨#[]⟩], .bool _]) (by simp [results, Try.results11, go_sem, c0, c1, c2]) rfl ⟨rfl, ?_, ?_⟩
  · exact N2.out.kept (S := fun k => k = w.heap.size + 1) (by repeat (first | exact Kept.refl _ _ | refine Kept.setAt (fun _ => rfl) ?_)) (by omega)
  · have k2 : Kept (fun k => k = b) w w1 := (((Kept.refl (fun k => k = b) w).alloc _).alloc _).trans K2.out (fun _ _ f => f) (fun _ _ f => by first | exact f | exact f.elim)
    exact ((k2.setCell (fun hh => absurd hh (by simp)) _).setCell (fun hh => absurd hh (by simp)) _).setCell (fun hh => absurd hh (by simp)) _

set_option maxHeartbeats 2000000 in
theorem done_lose (w : World) (b : Nat) (L : List Mail) (x : Act') (h : NetOk w b L) (h0 : 0 ≤ x.kind) (h1 : x.kind < 256) (hk : x.kind % 9 = 8) :
    Calls Try.prog 11 #[.pointer (some ⟨b, 0, none⟩), x.val] w fun e w' => e = .returned (.tuple #[(Mail.zero).val, .bool (inB L x.i)]) ∧ NetOk w' b (delL L x.i) ∧ Kept (fun k => k = b) w w' := by
  have hb := h.lt
  have H := Lib.hid h; clear h
  rw [zero_val]
  have n1 : ¬ w.heap.size + 1 = b := by omega
  unfold Act'.val
  go_enter Try.func11, Try.ntmps11
  go_wp2_with fail
  refine (lose_any _ b L x.i (H.out.kept (((Kept.refl (fun _ => False) _).alloc _).alloc _) (fun f => f))).mono ?_
  rintro e w1 ⟨rfl, h2, hK⟩
  obtain ⟨c0, c1, c2, fz⟩ := hK.cells3 (n := w.heap.size + 1) (by first | exact n1 | exact fun f => f) (x := .int .i64 0) (y := .int .i64 0) (z := .string ⟨#[]⟩) (by simp [go_sem]) (by simp [go_sem]) (by simp [go_sem]) (by simp [go_sem])
  have N2 := Lib.hid h2; have K2 := Lib.hid hK; clear h2 hK
  go_wp2
  refine bodyPost_ret (v := .tuple #[.agg #[.int .i64 0, .int .i64 0, .string ⟨#[]⟩], .bool _]) (by simp [results, Try.results11, go_sem, c0, c1, c2]) rfl ⟨rfl, ?_, ?_⟩
  · exact N2.out.kept (S := fun k => k = w.heap.size + 1) (by repeat (first | exact Kept.refl _ _ | refine Kept.setAt (fun _ => rfl) ?_)) (by omega)
  · have k2 : Kept (fun k => k = b) w w1 := (((Kept.refl (fun k => k = b) w).alloc _).alloc _).trans K2.out (fun _ _ f => f) (fun _ _ f => by first | exact f | exact f.elim)
    exact ((k2.setCell (fun hh => absurd hh (by simp)) _).setCell (fun hh => absurd hh (by simp)) _).setCell (fun hh => absurd hh (by simp)) _

set_option maxHeartbeats 2000000 in
theorem done_send (w : World) (b : Nat) (L : List Mail) (x : Act') (h : NetOk w b L) (h0 : 0 ≤ x.kind) (h1 : x.kind < 256) (hk : x.kind % 9 < 4) :
    Calls Try.prog 11 #[.pointer (some ⟨b, 0, none⟩), x.val] w fun e w' => e = .returned (.tuple #[(Mail.zero).val, .bool (roomB L)]) ∧ NetOk w' b (sendL L x.m) ∧ Kept (fun k => k = b) w w' := by
  have hb := h.lt
  have H := Lib.hid h; clear h
  rw [zero_val]
  have n1 : ¬ w.heap.size + 1 = b := by omega
  have hk1 : 0 ≤ x.kind % 9 := by omega
  unfold Act'.val
  go_enter Try.func11, Try.ntmps11
  go_wp2_with fail
  refine (send_at _ b L x.m (H.out.kept (((Kept.refl (fun _ => False) _).alloc _).alloc _) (fun f => f))).mono ?_
  rintro e w1 ⟨rfl, h2, hK⟩
  obtain ⟨c0, c1, c2, fz⟩ := hK.cells3 (n := w.heap.size + 1) (by first | exact n1 | exact fun f => f) (x := .int .i64 0) (y := .int .i64 0) (z := .string ⟨#[]⟩) (by simp [go_sem]) (by simp [go_sem]) (by simp [go_sem]) (by simp [go_sem])
  have N2 := Lib.hid h2; have K2 := Lib.hid hK; clear h2 hK
  go_wp2
  refine bodyPost_ret (v := .tuple #[.agg #[.int .i64 0, .int .i64 0, .string ⟨#[]⟩], .bool _]) (by simp [results, Try.results11, go_sem, c0, c1, c2]) rfl ⟨rfl, ?_, ?_⟩
  · exact N2.out.kept (S := fun k => k = w.heap.size + 1) (by repeat (first | exact Kept.refl _ _ | refine Kept.setAt (fun _ => rfl) ?_)) (by omega)
  · have k2 : Kept (fun k => k = b) w w1 := (((Kept.refl (fun k => k = b) w).alloc _).alloc _).trans K2.out (fun _ _ f => f) (fun _ _ f => by first | exact f | exact f.elim)
    exact ((k2.setCell (fun hh => absurd hh (by simp)) _).setCell (fun hh => absurd hh (by simp)) _).setCell (fun hh => absurd hh (by simp)) _

theorem done_any (w : World) (b : Nat) (L : List Mail) (x : Act') (h : NetOk w b L) (h0 : 0 ≤ x.kind) (h1 : x.kind < 256) :
    Calls Try.prog 11 #[.pointer (some ⟨b, 0, none⟩), x.val] w fun e w' => e = .returned (.tuple #[(doneM L x).val, .bool (doneB L x)]) ∧ NetOk w' b (doneL L x) ∧ Kept (fun k => k = b) w w' := by
  have hlt : x.kind % 9 < 4 ∨ x.kind % 9 = 4 ∨ x.kind % 9 = 5 ∨ x.kind % 9 = 6 ∨ x.kind % 9 = 7 ∨ x.kind % 9 = 8 := by omega
  rcases hlt with hk | hk | hk | hk | hk | hk
  · have e1 : doneM L x = Mail.zero := by rw [doneM, if_neg (by omega)]
    have e2 : doneB L x = roomB L := by rw [doneB, if_neg (by omega), if_neg (by omega)]
    have e3 : doneL L x = sendL L x.m := by rw [doneL, if_neg (by omega), if_neg (by omega), if_neg (by omega)]
    rw [e1, e2, e3]; exact done_send w b L x h h0 h1 hk
  · have e1 : doneM L x = lookM L x.i := by rw [doneM, if_pos (by omega)]
    have e2 : doneB L x = inB L x.i := by rw [doneB, if_pos (by omega)]
    have e3 : doneL L x = L := by rw [doneL, if_pos (by omega)]
    rw [e1, e2, e3]; exact done_look w b L x h h0 h1 hk
  · have e1 : doneM L x = lookM L x.i := by rw [doneM, if_pos (by omega)]
    have e2 : doneB L x = inB L x.i := by rw [doneB, if_pos (by omega)]
    have e3 : doneL L x = delL L x.i := by rw [doneL, if_neg (by omega), if_pos (by omega)]
    rw [e1, e2, e3]; exact done_take5 w b L x h h0 h1 hk
  · have e1 : doneM L x = lookM L x.i := by rw [doneM, if_pos (by omega)]
    have e2 : doneB L x = inB L x.i := by rw [doneB, if_pos (by omega)]
    have e3 : doneL L x = delL L x.i := by rw [doneL, if_neg (by omega), if_pos (by omega)]
    rw [e1, e2, e3]; exact done_take6 w b L x h h0 h1 hk
  · have e1 : doneM L x = Mail.zero := by rw [doneM, if_neg (by omega)]
    have e2 : doneB L x = dupB L x.i := by rw [doneB, if_neg (by omega), if_pos (by omega)]
    have e3 : doneL L x = dupL L x.i := by rw [doneL, if_neg (by omega), if_neg (by omega), if_pos (by omega)]
    rw [e1, e2, e3]; exact done_double w b L x h h0 h1 hk
  · have e1 : doneM L x = Mail.zero := by rw [doneM, if_neg (by omega)]
    have e2 : doneB L x = inB L x.i := by rw [doneB, if_pos (by omega)]
    have e3 : doneL L x = delL L x.i := by rw [doneL, if_neg (by omega), if_pos (by omega)]
    rw [e1, e2, e3]; exact done_lose w b L x h h0 h1 hk
end Go.Proofs.Ytgafedmabaeemaa
