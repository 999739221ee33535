/- The walks over package nets: what each method does to a net's block. -/
import Derived.Test.YtgafedmabaeemaaRows
import Derived.Test.YtgafedmabaeemaaPlain
import Derived.WalkKit
import Derived.WalkSpells
import Derived.WalkLawsBesides
import Derived.BigQuiet
import Derived.Deep.QuietTactic
import Derived.Lib.Hide
import Derived.Deep.Light
namespace Go.Proofs.Ytgafedmabaeemaa
open Go.RowKit

/-- A net value and its number of messages: nil, or a pointer to a net. -/
def Many (w : World) (v : Value) (m : Nat) : Prop := (v = .pointer none ∧ m = 0) ∨ ∃ b, v = .pointer (some ⟨b, 0, none⟩) ∧ w.cell? ⟨b, 1, none⟩ = some (.int .i64 m)

set_option maxHeartbeats 400000 in
theorem len_any (v : Value) (w : World) (m : Nat) (h : Many w v m) : Calls Try.prog 13 #[v] w fun e w' => e = .returned (.int .i64 m) ∧ w = w' := by
  rcases h with ⟨rfl, rfl⟩ | ⟨b, rfl, hc⟩
  · go_enter Try.func13, Try.ntmps13
    go_wp2
    go_ret
    exact ⟨rfl, rfl⟩
  · go_enter Try.func13, Try.ntmps13
    go_wp2
    go_ret
    exact ⟨rfl, rfl⟩

set_option maxHeartbeats 400000 in
theorem ahead_no (v : Value) (w : World) (m : Nat) (i : Int) (h : Many w v m) (hi : i < 0 ∨ (m : Int) ≤ i) :
    Calls Try.prog 27 #[v, .int .i64 i] w fun e w' => e = .returned (.tuple #[.int .i64 0, .bool false]) ∧ w = w' := by
  have H := Lib.hid h; clear h
  by_cases h0 : i < 0
  · clear hi
    go_enter Try.func27, Try.ntmps27
    go_wp2_with (go_at_call 13; refine (len_any _ _ _ H.out).mono ?_; rintro e w' ⟨rfl, rfl⟩)
    go_ret2
    exact ⟨rfl, rfl⟩
  · have h1 : (m : Int) ≤ i := by omega
    clear hi
    go_enter Try.func27, Try.ntmps27
    go_wp2_with (go_at_call 13; refine (len_any _ _ _ H.out).mono ?_; rintro e w' ⟨rfl, rfl⟩)
    go_ret2
    exact ⟨rfl, rfl⟩

theorem ret_tup {a b c d : Value} (h : a = c) (h' : b = d) : Ending.returned (.tuple #[a, b]) = .returned (.tuple #[c, d]) := by rw [h, h']

set_option maxHeartbeats 400000 in
theorem ahead_at (w : World) (b : Nat) (s : NS) (p : Nat → Nat) (L : List Mail) (i : Nat) (h : NetIs w b s) (hch : Chain s p L) (hi : i < L.length) :
    Calls Try.prog 27 #[.pointer (some ⟨b, 0, none⟩), .int .i64 i] w fun e w' => e = .returned (.tuple #[.int .i64 (p i), .bool true]) ∧ w = w' := by
  have hm : Many w (.pointer (some ⟨b, 0, none⟩)) L.length := .inr ⟨b, rfl, by rw [← hch.many]; exact h.many⟩
  have H := Lib.hid hm; clear hm
  have h0 : ¬ (i : Int) < 0 := by omega
  have h1 : (i : Int) < L.length := by omega
  have hg : decide (L.length ≤ i) = false := by simp; omega
  have hle := hch.le
  have C := Lib.hid hch; clear hch
  have N := Lib.hid h; clear h
  have hz : (0 : Int) = ((p 0 : Nat) : Int) := by rw [C.out.zero]; rfl
  have HZ := Lib.hid hz; clear hz
  go_enter Try.func27, Try.ntmps27
  go_wp2_with (go_at_call 13; refine (len_any _ _ _ H.out).mono ?_; rintro e w' ⟨rfl, rfl⟩)
  go_loop [6, 16] (fun t k => ∃ j : Nat, j ≤ i ∧ k = .int .i64 j ∧ t = .int .i64 (p j)) (fun _ k => i - (intOf k).toNat)
  case atStart => exact ⟨0, Nat.zero_le _, rfl, by rw [← HZ.out]⟩
  case round =>
    obtain ⟨j, hj, rfl, rfl⟩ := hrel
    have hbj : p j < 65 := by have := C.out.hi j; omega
    have hnj : w.cell? ⟨b, 2 + p j * 5 + 3, none⟩ = some (.int .i64 (p (j + 1))) := by
      rw [N.out.field hbj (by omega)]; simp [NS.field, C.out.next j (by omega)]
    by_cases hlt : j < i
    · go_wp2
      go_round
      case rel => exact ⟨j + 1, by omega, by go_num, rfl⟩
      case measure => simp [intOf]; omega
    · obtain rfl : j = i := by omega
      go_wp2
      go_ret2
      exact ⟨rfl, rfl⟩

/-- The world behind a statement under a name, with what is known of it. -/
theorem then_gen {K : Act → World → Prop} {Q : Exit → Act → World → Prop} {a : Act} {W : World} (R : World → Prop) (h : R W) (k : ∀ w', R w' → Exit.then K Q .normal a w') : Exit.then K Q .normal a W := k W h

/-- A net that is one, with its messages. -/
def NetOk (w : World) (b : Nat) (L : List Mail) : Prop := ∃ s p, NetIs w b s ∧ Chain s p L

set_option maxHeartbeats 1000000 in
theorem put_full (w : World) (b : Nat) (s : NS) (k : Nat) (m : Mail) (h : NetIs w b s) (hm : s.many = 64) :
    Calls Try.prog 28 #[.pointer (some ⟨b, 0, none⟩), .int .i64 k, m.val] w fun e w' => e = .returned (.bool false) ∧ Kept (fun _ => False) w w' := by
  have hc := h.many
  rw [hm] at hc
  have hlt := h.lt
  clear h hm
  unfold Mail.val
  go_enter Try.func28, Try.ntmps28
  go_wp2
  go_ret
  exact ⟨rfl, (Kept.refl _ _).alloc _⟩
set_option maxHeartbeats 1000000 in
theorem put_room (w : World) (b : Nat) (s : NS) (p : Nat → Nat) (L : List Mail) (i : Nat) (m : Mail) (h : NetIs w b s) (hch : Chain s p L) (hl : L.length < 64) (hi : i ≤ L.length) :
    Calls Try.prog 28 #[.pointer (some ⟨b, 0, none⟩), .int .i64 (p i), m.val] w fun e w' => e = .returned (.bool true) ∧ NetOk w' b (insL L i m) ∧ Kept (fun k => k = b) w w' := by
  have hc := h.many
  rw [hch.many] at hc
  have hlt := h.lt
  have C := Lib.hid hch; clear hch
  have N := Lib.hid h; clear h
  unfold Mail.val
  go_enter Try.func28, Try.ntmps28
  go_wp2
  go_loop [7] (fun t => ∃ k : Nat, 1 ≤ k ∧ k ≤ 64 ∧ t = .int .i64 k ∧ ∀ k', 1 ≤ k' → k' < k → s.used k' = true) (fun t => 64 - (intOf t).toNat)
  case atStart => exact ⟨1, by omega, by omega, rfl, fun k' _ _ => by omega⟩
  case round =>
    obtain ⟨k, k1, k2, rfl, hk⟩ := hrel
    have hu : w.cell? ⟨b, 2 + k * 5 + 4, none⟩ = some (.bool (s.used k)) := N.out.field (k := k) (i := 4) (by omega) (by omega)
    have HK := Lib.hid hk; clear hk
    cases hb : s.used k with
    | true =>
      rw [hb] at hu
      have HB := Lib.hid hb; clear hb
      have hk3 : k < 64 := by
        apply Classical.byContradiction
        intro hn
        exact C.out.room hl fun k' h1 h2 => by
          by_cases e : k' < k
          · exact HK.out k' h1 e
          · rw [show k' = k by omega]; exact HB.out
      go_wp2
      go_round
      case rel => exact ⟨k + 1, by omega, by omega, by go_num, fun k' h1 h2 => by
        by_cases e : k' < k
        · exact HK.out k' h1 e
        · rw [show k' = k by omega]; exact HB.out⟩
      case measure => simp [intOf]; omega
    | false =>
      rw [hb] at hu
      have HB := Lib.hid hb; clear hb
      have hn : w.cell? ⟨b, 2 + p i * 5 + 3, none⟩ = some (.int .i64 (s.next (p i))) := N.out.field (k := p i) (i := 3) (by have := C.out.hi i; omega) (by omega)
      have f0 : w.cell? ⟨b, 2 + k * 5, none⟩ = some (.int .i64 (s.mail k).f) := N.out.field (k := k) (i := 0) (by omega) (by omega)
      have f1 : w.cell? ⟨b, 2 + k * 5 + 1, none⟩ = some (.int .i64 (s.mail k).t) := N.out.field (k := k) (i := 1) (by omega) (by omega)
      have f2 : w.cell? ⟨b, 2 + k * 5 + 2, none⟩ = some (.string (s.mail k).d) := N.out.field (k := k) (i := 2) (by omega) (by omega)
      have f3 : w.cell? ⟨b, 2 + k * 5 + 3, none⟩ = some (.int .i64 (s.next k)) := N.out.field (k := k) (i := 3) (by omega) (by omega)
      have g (j : Nat) : w.frozen? ⟨b, j, none⟩ = false := N.out.frozen j
      have hpi : p i < 65 := by have := C.out.hi i; omega
      go_wp2
      go_region
      refine then_gen (fun w' => NetIs w' b { s with mail := upd s.mail k m, next := upd s.next k (s.next (p i)), used := upd s.used k true } ∧ Kept (fun k => k = b) w w') ?_ ?_
      · refine ⟨((N.out.setLink (k := k) (by omega) m _ true).kept ((Kept.refl (fun _ => False) _).alloc _) (fun h => h)).kept (Kept.drew (Kept.refl (fun _ => False) _)) (fun h => h), ?_⟩
        exact ((((((((Kept.refl (fun k => k = b) w).setCell (fun _ => rfl) _).setCell (fun _ => rfl) _).setCell (fun _ => rfl) _).setCell (fun _ => rfl) _).setCell (fun _ => rfl) _).alloc _).drew)
      · intro w1 ⟨hN, hK⟩
        clear hn f0 f1 f2 f3 g hu hc
        have N1 := Lib.hid hN; have K1 := Lib.hid hK; clear hN hK
        have hn : w1.cell? ⟨b, 2 + p i * 5 + 3, none⟩ = some (.int .i64 _) := N1.out.field (k := p i) (i := 3) hpi (by omega)
        have g (j : Nat) : w1.frozen? ⟨b, j, none⟩ = false := N1.out.frozen j
        have hmany : w1.cell? ⟨b, 1, none⟩ = some (.int .i64 s.many) := N1.out.many
        rw [C.out.many] at hmany
        go_wp2
        go_ret
        have e : ((L.length : Int) + 1) = ((L.length + 1 : Nat) : Int) := by omega
        refine ⟨rfl, ⟨_, _, ?_, C.out.ins hl hi (k := k) (by omega) (by omega) HB.out m⟩, ?_⟩
        · rw [e]
          have := (N1.out.setNext (k := p i) (by omega) k).setMany (L.length + 1)
          rw [← C.out.many] at this ⊢
          exact this
        · exact (K1.out.setCell (fun _ => rfl) _).setCell (fun _ => rfl) _

end Go.Proofs.Ytgafedmabaeemaa
