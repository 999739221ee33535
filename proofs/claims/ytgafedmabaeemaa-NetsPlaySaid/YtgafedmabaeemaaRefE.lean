/- The walks over the reference's net, fifth part: Double where it does nothing, Take; all of them whatever the place. -/
import Derived.Test.YtgafedmabaeemaaRefD
namespace Go.Proofs.Ytgafedmabaeemaa
open Go.RowKit

set_option maxHeartbeats 1000000 in
theorem rdouble_no (w : World) (base r : Nat) (v : Value) (L : List Mail) (i : Int) (h : RefOk w base r v L) (hi : i < 0 ∨ (L.length : Int) ≤ i) :
    Calls Try.prog 24 #[.pointer (some ⟨r, 0, none⟩), .int .i64 i] w fun e w' => e = .returned (.bool false) ∧ w = w' := by
  have H := Lib.hid h; have I := Lib.hid hi; clear h hi
  go_enter Try.func24, Try.ntmps24
  go_wp2_with (go_at_call 29; refine (is_no _ base r v L i H.out I.out).mono ?_; rintro e w' ⟨rfl, rfl⟩)
  go_ret
  exact ⟨rfl, rfl⟩

set_option maxHeartbeats 1000000 in
theorem rdouble_full (w : World) (base r : Nat) (v : Value) (L : List Mail) (i : Nat) (h : RefOk w base r v L) (hi : i < L.length) (hl : ¬ L.length < 64) :
    Calls Try.prog 24 #[.pointer (some ⟨r, 0, none⟩), .int .i64 i] w fun e w' => e = .returned (.bool false) ∧ w = w' := by
  have hr := h.read
  have hlt := h.lt
  have hle := h.le
  have H := Lib.hid h
  rcases row_form h.row with ⟨rfl, hn⟩ | ⟨g, cap, rfl, hc, _, hg, hcell⟩
  · omega
  · have h64 : (64 : Int) ≤ (L.length : Int) := by omega
    clear h hcell
    go_enter Try.func24, Try.ntmps24
    go_wp2_with (go_at_call 29; refine (is_yes _ base r _ L i H.out hi).mono ?_; rintro e w' ⟨rfl, rfl⟩)
    go_ret
    exact ⟨rfl, rfl⟩

theorem RefNow.same {w w' : World} {base r : Nat} {v : Value} {L : List Mail} (h : RefOk w base r v L) (hK : Kept (fun _ => False) w w') : RefNow w w' base r v L :=
  ⟨⟨v, h.kept hK (fun f => f) (fun _ _ f => f), fun _ hk => .inl hk⟩, hK.mono (fun _ _ f => f.elim)⟩
theorem RefNow.around {S : Nat → Prop} {w wA w1 w2 : World} {base r : Nat} {v : Value} {L0 L : List Mail} (h0 : RefOk w base r v L0) (hA : Kept (fun _ => False) w wA) (h : RefNow wA w1 base r v L) (h2 : Kept S w1 w2)
    (hS : ∀ k, S k → w.heap.size ≤ k ∧ k < wA.heap.size) : RefNow w w2 base r v L := by
  obtain ⟨⟨v', o1, o2⟩, hK⟩ := h
  have hlt := h0.lt
  refine ⟨⟨v', o1.kept h2 (fun hs => by have := hS _ hs; omega) (fun k hk hs => ?_), fun k hk => ?_⟩, ?_⟩
  · have := hS _ hs
    rcases o2 k hk with e | e
    · have := (h0.row.lt _ e).2; omega
    · omega
  · have := hA.size
    rcases o2 k hk with e | e
    · exact .inl e
    · right; omega
  · have k1 : Kept (RefS r v) w w1 := hA.trans hK (fun _ _ f => f.elim) (fun _ _ f => f)
    exact k1.trans h2 (fun _ _ f => f) (fun k hk hs => by have := hS _ hs; omega)

theorem rlook_any (w : World) (base r : Nat) (v : Value) (L : List Mail) (i : Int) (h : RefOk w base r v L) :
    Calls Try.prog 22 #[.pointer (some ⟨r, 0, none⟩), .int .i64 i] w fun e w' => e = .returned (.tuple #[(lookM L i).val, .bool (inB L i)]) ∧ Kept (fun _ => False) w w' := by
  by_cases hi : inR L i
  · obtain ⟨n, rfl, hn, _, hm⟩ := inR_nat hi
    exact (rlook_at w base r v L n _ h hm).mono fun e w' ⟨h1, h2⟩ => ⟨by rw [h1, inB, decide_eq_true hi], h2⟩
  · exact (rlook_no w base r v L i h (not_inR hi)).mono fun e w' ⟨h1, h2⟩ => ⟨by rw [h1, inB, decide_eq_false hi, lookM, if_neg hi], h2⟩
theorem rlose_any (w : World) (base r : Nat) (v : Value) (L : List Mail) (i : Int) (h : RefOk w base r v L) (hb : base ≤ w.heap.size) :
    Calls Try.prog 25 #[.pointer (some ⟨r, 0, none⟩), .int .i64 i] w fun e w' => e = .returned (.bool (inB L i)) ∧ RefNow w w' base r v (delL L i) := by
  by_cases hi : inR L i
  · obtain ⟨n, rfl, hn, _, hm⟩ := inR_nat hi
    exact (rlose_at w base r v L n h hn hb).mono fun e w' ⟨h1, h2⟩ => ⟨by rw [h1, inB, decide_eq_true hi], by rw [delL, if_pos hi]; exact h2⟩
  · exact (rlose_no w base r v L i h (not_inR hi)).mono fun e w' ⟨h1, h2⟩ => ⟨by rw [h1, inB, decide_eq_false hi], by rw [← h2, delL, if_neg hi]; exact .same h (Kept.refl _ _)⟩
theorem rdouble_any (w : World) (base r : Nat) (v : Value) (L : List Mail) (i : Int) (h : RefOk w base r v L) (hb : base ≤ w.heap.size) :
    Calls Try.prog 24 #[.pointer (some ⟨r, 0, none⟩), .int .i64 i] w fun e w' => e = .returned (.bool (dupB L i)) ∧ RefNow w w' base r v (dupL L i) := by
  by_cases hi : inR L i
  · obtain ⟨n, rfl, hn, hz, hm⟩ := inR_nat hi
    by_cases hl : L.length < 64
    · refine (rdouble_room w base r v L n _ h hm hl hb).mono fun e w' ⟨h1, h2⟩ => ⟨by rw [h1, dupB, inB, decide_eq_true hi, roomB, decide_eq_true hl]; rfl, ?_⟩
      rw [dupL, if_pos hi, putL, if_pos hl, hz]; exact h2
    · refine (rdouble_full w base r v L n h hn hl).mono fun e w' ⟨h1, h2⟩ => ⟨by rw [h1, dupB, inB, decide_eq_true hi, roomB, decide_eq_false hl]; rfl, ?_⟩
      rw [← h2, dupL, if_pos hi, putL, if_neg hl]; exact .same h (Kept.refl _ _)
  · exact (rdouble_no w base r v L i h (not_inR hi)).mono fun e w' ⟨h1, h2⟩ => ⟨by rw [h1, dupB, inB, decide_eq_false hi]; rfl, by rw [← h2, dupL, if_neg hi]; exact .same h (Kept.refl _ _)⟩

set_option maxHeartbeats 2000000 in
theorem rtake_any (w : World) (base r : Nat) (v : Value) (L : List Mail) (i : Int) (h : RefOk w base r v L) (hb : base ≤ w.heap.size) :
    Calls Try.prog 23 #[.pointer (some ⟨r, 0, none⟩), .int .i64 i] w fun e w' => e = .returned (.tuple #[(lookM L i).val, .bool (inB L i)]) ∧ RefNow w w' base r v (delL L i) := by
  obtain ⟨m, hm⟩ : ∃ m, lookM L i = m := ⟨_, rfl⟩
  rw [hm]
  have HM := Lib.hid hm; clear hm
  have hlt := h.lt
  have H := Lib.hid h; clear h
  go_enter Try.func23, Try.ntmps23
  go_wp2_with fail
  refine (rlook_any _ base r v L i (H.out.kept ((Kept.refl (fun _ => False) _).alloc _) (fun f => f) (fun _ _ f => f))).mono ?_
  rintro e w1 ⟨rfl, hK⟩
  rw [HM.out]
  have K1 := Lib.hid ((((Kept.refl (fun _ => False) w).alloc _).trans hK (fun _ _ f => f) (fun _ _ f => f)))
  obtain ⟨c0, c1, c2, fz, hsz⟩ := hK.fresh3 (fun f => f)
  clear hK
  have n1 : ¬ RefS r v w.heap.size := not_refS (by omega) (fun e => by have := (H.out.row.lt _ e).2; omega)
  have n2 : ¬ RefS r v w1.heap.size := not_refS (by omega) (fun e => by have := (H.out.row.lt _ e).2; omega)
  have hb1 := Nat.le_trans hb K1.out.size
  unfold Mail.val
  go_wp2_with fail
  refine (rlose_any _ base r v L i (H.out.kept (K1.out.alloc _) (fun f => f) (fun _ _ f => f)) (by simp; omega)).mono ?_
  rintro e w2 ⟨rfl, hR⟩
  obtain ⟨k0, k1, k2, kf⟩ := hR.kept.cells3 (n := w.heap.size) n1 (x := .int .i64 0) (y := .int .i64 0) (z := .string ⟨#[]⟩) (by simp [go_sem, c0, hsz]) (by simp [go_sem, c1, hsz]) (by simp [go_sem, c2, hsz]) (by simp [go_sem, fz, hsz])
  obtain ⟨m0, m1, m2, _⟩ := hR.kept.cells3 (n := w1.heap.size) n2 (x := .int .i64 m.f) (y := .int .i64 m.t) (z := .string m.d) (by simp [go_sem]) (by simp [go_sem]) (by simp [go_sem]) (by simp [go_sem])
  have R2 := Lib.hid hR; clear hR
  go_wp2
  refine bodyPost_ret (v := .tuple #[Mail.val m, .bool _]) (by simp [results, Try.results23, go_sem, k0, k1, k2, Mail.val]) rfl ⟨rfl, ?_⟩
  refine RefNow.around (S := fun k => k = w.heap.size) H.out (K1.out.alloc _) R2.out ?_ (fun k hk => ⟨by omega, by have := hsz; simp; omega⟩)
  repeat (first | exact Kept.refl _ _ | refine Kept.setAt (fun _ => rfl) ?_)
end Go.Proofs.Ytgafedmabaeemaa
