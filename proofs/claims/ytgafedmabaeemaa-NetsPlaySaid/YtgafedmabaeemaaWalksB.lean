/- The walks over package nets, second part: Send, Look, Lose, Take, Double, All, New. -/
import Derived.Test.YtgafedmabaeemaaWalks
import Derived.Deep.RegionHeld3
import Derived.Deep.DeepCutAuto
import Derived.Deep.CutBlock
import Derived.Deep.LoopGhost
namespace Go.Proofs.Ytgafedmabaeemaa
open Go.RowKit

theorem NetOk.lt {w : World} {b : Nat} {L : List Mail} (h : NetOk w b L) : b < w.heap.size := by obtain ⟨s, p, h, _⟩ := h; exact h.lt
theorem NetOk.le {w : World} {b : Nat} {L : List Mail} (h : NetOk w b L) : L.length ≤ 64 := by obtain ⟨s, p, _, h⟩ := h; exact h.le
theorem NetOk.kept {S : Nat → Prop} {w w' : World} {b : Nat} {L : List Mail} (h : NetOk w b L) (hk : Kept S w w') (hb : ¬ S b) : NetOk w' b L := by
  obtain ⟨s, p, h, c⟩ := h; exact ⟨s, p, h.kept hk hb, c⟩
theorem NetOk.many {w : World} {b : Nat} {L : List Mail} (h : NetOk w b L) : Many w (.pointer (some ⟨b, 0, none⟩)) L.length := by
  obtain ⟨s, p, h, c⟩ := h; exact .inr ⟨b, rfl, by rw [← c.many]; exact h.many⟩

theorem Many.kept {S : Nat → Prop} {w w' : World} {v : Value} {n : Nat} (h : Many w v n) (hk : Kept S w w') (hS : ∀ b, v = .pointer (some ⟨b, 0, none⟩) → ¬ S b) : Many w' v n := by
  rcases h with h | ⟨b, hv, hc⟩
  · exact .inl h
  · exact .inr ⟨b, hv, (World.cell?_of_block (w := w) (hk.block b (World.block_lt_of_cell? _ _ hc) (hS b hv))).trans hc⟩
theorem Many.alloc {w : World} {v : Value} {n : Nat} (h : Many w v n) (o : Obj) : Many (w.alloc o) v n := h.kept ((Kept.refl (fun _ => False) _).alloc o) (fun _ _ f => f)

theorem wp_gen {P : Program} {c : Code} {Q : Exit → Act → World → Prop} {a : Act} {W : World} (R : World → Prop) (h : R W) (k : ∀ w', R w' → c.wp P Q a w') : c.wp P Q a W := k W h

/-- Is there room? -/
def roomB (L : List Mail) : Bool := decide (L.length < 64)
/-- A message behind place i, if there is room. -/
def putL (L : List Mail) (i : Nat) (m : Mail) : List Mail := if L.length < 64 then insL L i m else L
def sendL (L : List Mail) (m : Mail) : List Mail := putL L L.length m

/-- put, whatever room there is. -/
theorem put_any (w : World) (b : Nat) (s : NS) (p : Nat → Nat) (L : List Mail) (i : Nat) (m : Mail) (h : NetIs w b s) (hch : Chain s p L) (hi : i ≤ L.length) :
    Calls Try.prog 28 #[.pointer (some ⟨b, 0, none⟩), .int .i64 (p i), m.val] w fun e w' =>
      e = .returned (.bool (roomB L)) ∧ NetOk w' b (putL L i m) ∧ Kept (fun k => k = b) w w' := by
  by_cases hl : L.length < 64
  · refine (put_room w b s p L i m h hch hl hi).mono fun e w' ⟨h1, h2, h3⟩ => ⟨by rw [h1, roomB, decide_eq_true hl], by rw [putL, if_pos hl]; exact h2, h3⟩
  · refine (put_full w b s (p i) m h (by rw [hch.many]; have := hch.le; omega)).mono fun e w' ⟨h1, h2⟩ => ⟨by rw [h1, roomB, decide_eq_false hl], ?_, h2.mono (fun _ _ f => f.elim)⟩
    rw [putL, if_neg hl]; exact ⟨s, p, h.kept h2 (fun f => f), hch⟩

set_option maxHeartbeats 1000000 in
theorem send_at (w : World) (b : Nat) (L : List Mail) (m : Mail) (h : NetOk w b L) :
    Calls Try.prog 21 #[.pointer (some ⟨b, 0, none⟩), m.val] w fun e w' => e = .returned (.bool (roomB L)) ∧ NetOk w' b (sendL L m) ∧ Kept (fun k => k = b) w w' := by
  obtain ⟨s, p, hN, hC⟩ := h
  have hmade := hN.made
  rw [hC.made] at hmade
  have hlt := hN.lt
  have N := Lib.hid hN; have C := Lib.hid hC; clear hN hC
  have e0 : (0 : Int) = ((p 0 : Nat) : Int) := by rw [C.out.zero]; rfl
  have E0 := Lib.hid e0; clear e0
  have hb1 : b ≠ w.heap.size := by omega
  unfold Mail.val
  go_enter Try.func21, Try.ntmps21
  go_wp2
  go_loopg [5] L.length (fun g t wr => wr = w.alloc (Obj.cells #[Value.int IntKind.i64 m.f, Value.int IntKind.i64 m.t, Value.string m.d] 31) ∧ ∃ j : Nat, j + g = L.length ∧ t = .int .i64 (p j))
  case atStart => exact ⟨rfl, 0, by omega, by rw [← E0.out]⟩
  case round =>
    obtain ⟨rfl, j, hj, rfl⟩ := hrel
    have hj1 : j ≤ L.length := by omega
    have J := Lib.hid hj; clear hj
    have hbj : p j < 65 := by have := C.out.hi j; omega
    have hnj : w.cell? ⟨b, 2 + p j * 5 + 3, none⟩ = some (.int .i64 (p (j + 1))) := by
      rw [N.out.field hbj (by omega)]; simp [NS.field, C.out.next j (by omega)]
    by_cases hlt' : j < L.length
    · have h1 : 1 ≤ p (j + 1) := C.out.lo _ (by omega) (by omega)
      go_wp2
      go_roundg (gk - 1)
      case measure => have := J.out; omega
      case rel => exact ⟨rfl, j + 1, by have := J.out; omega, rfl⟩
    · have hz : p (j + 1) = 0 := C.out.past _ (by omega)
      rw [hz] at hnj
      obtain rfl : j = L.length := by omega
      go_wp2_with (go_at_call 28; refine (put_any _ b s p L _ m (N.out.kept ((Kept.refl (fun _ => False) _).alloc _) (fun f => f)) C.out (by omega)).mono ?_; rintro e w' ⟨rfl, h2, h3⟩)
      go_ret
      exact ⟨rfl, h2, ((Kept.refl _ _).alloc _).trans h3 (fun _ _ h => h) (fun _ _ h => h)⟩

set_option maxHeartbeats 1000000 in
theorem send_void (w : World) (v : Value) (m : Mail) (h : v = .pointer none ∨ ∃ b, v = .pointer (some ⟨b, 0, none⟩) ∧ w.cell? ⟨b, 0, none⟩ = some (.bool false)) :
    Calls Try.prog 21 #[v, m.val] w fun e w' => e = .returned (.bool false) ∧ Kept (fun _ => False) w w' := by
  unfold Mail.val
  rcases h with rfl | ⟨b, rfl, hc⟩
  · go_enter Try.func21, Try.ntmps21
    go_wp2
    go_ret
    exact ⟨rfl, (Kept.refl _ _).alloc _⟩
  · have hb : b < w.heap.size := World.block_lt_of_cell? _ _ hc
    go_enter Try.func21, Try.ntmps21
    go_wp2
    go_ret
    exact ⟨rfl, (Kept.refl _ _).alloc _⟩

set_option maxHeartbeats 1000000 in
theorem look_no (w : World) (v : Value) (n : Nat) (i : Int) (h : Many w v n) (hi : i < 0 ∨ (n : Int) ≤ i) :
    Calls Try.prog 17 #[v, .int .i64 i] w fun e w' => e = .returned (.tuple #[Mail.zero.val, .bool false]) ∧ Kept (fun _ => False) w w' := by
  have H := Lib.hid h; have I := Lib.hid hi; clear h hi
  go_enter Try.func17, Try.ntmps17
  go_wp2_with (go_at_call 27; refine (ahead_no v _ n i (H.out.alloc _) I.out).mono ?_; rintro e w' ⟨rfl, rfl⟩)
  refine bodyPost_ret (v := .tuple #[Mail.zero.val, .bool false]) (by simp [results, Try.results17, go_sem, Mail.val, Mail.zero]) rfl ⟨rfl, ?_⟩
  exact (Kept.refl _ _).alloc _

theorem zero_val : Mail.zero.val = .agg #[.int .i64 0, .int .i64 0, .string ⟨#[]⟩] := rfl

theorem lt_of_get {α : Type} {L : List α} {i : Nat} {m : α} (h : L[i]? = some m) : i < L.length := (List.getElem?_eq_some_iff.1 h).1

set_option maxHeartbeats 1000000 in
theorem look_at (w : World) (b : Nat) (L : List Mail) (i : Nat) (m : Mail) (h : NetOk w b L) (hi' : L[i]? = some m) :
    Calls Try.prog 17 #[.pointer (some ⟨b, 0, none⟩), .int .i64 i] w fun e w' => e = .returned (.tuple #[m.val, .bool true]) ∧ Kept (fun _ => False) w w' := by
  obtain ⟨s, p, hN, hC⟩ := h
  have hlt := hN.lt
  have hi := lt_of_get hi'
  have em : m = s.mail (p (i + 1)) := by have hm := hC.mail i hi; rw [hi'] at hm; exact Option.some.inj hm
  clear hi'
  have hnx := hC.next i (by omega)
  have hn : w.cell? ⟨b, 2 + p i * 5 + 3, none⟩ = some (.int .i64 (p (i + 1))) := by
    rw [hN.field (k := p i) (i := 3) (by have := hC.hi i; omega) (by omega)]; simp only [NS.field, hnx]
  clear hnx
  have hq : p (i + 1) < 65 := by have := hC.hi (i + 1); omega
  have hpi : p i < 65 := by have := hC.hi i; omega
  have f0 : w.cell? ⟨b, 2 + p (i + 1) * 5, none⟩ = some (.int .i64 (s.mail (p (i + 1))).f) := hN.field (k := p (i + 1)) (i := 0) hq (by omega)
  have f1 : w.cell? ⟨b, 2 + p (i + 1) * 5 + 1, none⟩ = some (.int .i64 (s.mail (p (i + 1))).t) := hN.field (k := p (i + 1)) (i := 1) hq (by omega)
  have f2 : w.cell? ⟨b, 2 + p (i + 1) * 5 + 2, none⟩ = some (.string (s.mail (p (i + 1))).d) := hN.field (k := p (i + 1)) (i := 2) hq (by omega)
  have N := Lib.hid hN; have C := Lib.hid hC; clear hN hC
  rw [← em] at f0 f1 f2
  clear em
  generalize p (i + 1) = q at *
  go_enter Try.func17, Try.ntmps17
  go_wp2_with (go_at_call 27; refine (ahead_at _ b s p L i (N.out.kept ((Kept.refl (fun _ => False) _).alloc _) (fun f => f)) C.out hi).mono ?_; rintro e w' ⟨rfl, rfl⟩)
  go_region
  all_goals go_wp2
  all_goals refine bodyPost_ret (v := .tuple #[m.val, .bool true]) (by simp [results, Try.results17, go_sem, Mail.val]) rfl ⟨rfl, ?_⟩
  all_goals exact ((Kept.refl _ _).alloc _).drew

set_option maxHeartbeats 1000000 in
theorem lose_no (w : World) (v : Value) (n : Nat) (i : Int) (h : Many w v n) (hi : i < 0 ∨ (n : Int) ≤ i) :
    Calls Try.prog 19 #[v, .int .i64 i] w fun e w' => e = .returned (.bool false) ∧ w = w' := by
  have H := Lib.hid h; have I := Lib.hid hi; clear h hi
  go_enter Try.func19, Try.ntmps19
  go_wp2_with (go_at_call 27; refine (ahead_no v _ n i H.out I.out).mono ?_; rintro e w' ⟨rfl, rfl⟩)
  go_ret
  exact ⟨rfl, rfl⟩

set_option maxHeartbeats 1000000 in
theorem lose_yes (w : World) (b : Nat) (L : List Mail) (i : Nat) (h : NetOk w b L) (hi : i < L.length) :
    Calls Try.prog 19 #[.pointer (some ⟨b, 0, none⟩), .int .i64 i] w fun e w' => e = .returned (.bool true) ∧ NetOk w' b (L.eraseIdx i) ∧ Kept (fun k => k = b) w w' := by
  obtain ⟨s, p, hN, hC⟩ := h
  have hlt := hN.lt
  have hnx := hC.next i (by omega)
  have hpi : p i < 65 := by have := hC.hi i; omega
  have hq : p (i + 1) < 65 := by have := hC.hi (i + 1); omega
  have hne : p i ≠ p (i + 1) := fun e => by have := hC.inj i (i + 1) (by omega) (by omega) e; omega
  have hn : w.cell? ⟨b, 2 + p i * 5 + 3, none⟩ = some (.int .i64 (p (i + 1))) := by
    rw [hN.field (k := p i) (i := 3) hpi (by omega)]; simp only [NS.field, hnx]
  have hnq : w.cell? ⟨b, 2 + p (i + 1) * 5 + 3, none⟩ = some (.int .i64 (s.next (p (i + 1)))) := hN.field (k := p (i + 1)) (i := 3) hq (by omega)
  have g (j : Nat) : w.frozen? ⟨b, j, none⟩ = false := hN.frozen j
  have D := hC.del hi
  have N := Lib.hid hN; have C := Lib.hid hC; have DD := Lib.hid D; have NX := Lib.hid hnx; have NE := Lib.hid hne; clear hN hC D hnx hne
  generalize hqq : p (i + 1) = q at *
  clear hqq
  go_enter Try.func19, Try.ntmps19
  go_wp2_with (go_at_call 27; refine (ahead_at _ b s p L i N.out C.out hi).mono ?_; rintro e w' ⟨rfl, rfl⟩)
  go_region
  refine then_gen (fun w' => NetIs w' b { s with next := upd s.next (p i) (s.next q) } ∧ Kept (fun k => k = b) w w') ?_ ?_
  · exact ⟨(N.out.setNext hpi _).kept (Kept.drew (Kept.refl (fun _ => False) _)) (fun h => h), ((Kept.refl (fun k => k = b) w).setCell (fun _ => rfl) _).drew⟩
  · intro w1 ⟨hN, hK⟩
    clear hn hnq g
    have g (j : Nat) : w1.frozen? ⟨b, j, none⟩ = false := hN.frozen j
    have f0 : w1.cell? ⟨b, 2 + q * 5, none⟩ = some (.int .i64 (s.mail q).f) := hN.field (k := q) (i := 0) hq (by omega)
    have f1 : w1.cell? ⟨b, 2 + q * 5 + 1, none⟩ = some (.int .i64 (s.mail q).t) := hN.field (k := q) (i := 1) hq (by omega)
    have f2 : w1.cell? ⟨b, 2 + q * 5 + 2, none⟩ = some (.string (s.mail q).d) := hN.field (k := q) (i := 2) hq (by omega)
    have f3 : w1.cell? ⟨b, 2 + q * 5 + 3, none⟩ = some (.int .i64 _) := hN.field (k := q) (i := 3) hq (by omega)
    have f4 : w1.cell? ⟨b, 2 + q * 5 + 4, none⟩ = some (.bool (s.used q)) := hN.field (k := q) (i := 4) hq (by omega)
    have N1 := Lib.hid hN; have K1 := Lib.hid hK; clear hN hK
    go_upto_region 6 with fail
    refine wp_gen (fun w' => NetIs w' b { s with mail := upd s.mail q Mail.zero, next := upd (upd s.next (p i) (s.next q)) q 0, used := upd s.used q false } ∧ Kept (fun k => k = b) w w') ?_ ?_
    · exact ⟨N1.out.setLink hq Mail.zero 0 false, (((((K1.out).setCell (fun _ => rfl) _).setCell (fun _ => rfl) _).setCell (fun _ => rfl) _).setCell (fun _ => rfl) _).setCell (fun _ => rfl) _⟩
    · intro w2 ⟨hN, hK⟩
      clear f0 f1 f2 f3 f4 g N1 K1
      have hmany : w2.cell? ⟨b, 1, none⟩ = some (.int .i64 s.many) := hN.many
      rw [C.out.many] at hmany
      have g (j : Nat) : w2.frozen? ⟨b, j, none⟩ = false := hN.frozen j
      have hl1 : 1 ≤ (L.length : Int) := by omega
      have hl2 := C.out.le
      have N2 := Lib.hid hN; have K2 := Lib.hid hK; clear hN hK
      go_wp2
      go_ret
      refine ⟨rfl, ⟨_, _, ?_, DD.out⟩, K2.out.setCell (fun _ => rfl) _⟩
      rw [show ((L.length : Int) - 1) = ((s.many - 1 : Nat) : Int) by rw [C.out.many]; omega]
      exact N2.out.setMany (s.many - 1)
end Go.Proofs.Ytgafedmabaeemaa
