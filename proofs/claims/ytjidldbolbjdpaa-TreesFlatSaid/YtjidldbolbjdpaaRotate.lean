/- slices.rotateCmpFunc over spans. -/
import Derived.Test.YtjidldbolbjdpaaRange
namespace Go.Proofs.Ytjidldbolbjdpaa
open Go.RowKit

/-- Rotates, block by block: i are left ahead of m, j from m on. -/
def rotF (m i j : Nat) (L : List Spn) : List Spn :=
  if _h : 0 < i ∧ 0 < j ∧ i ≠ j then (if j < i then rotF m (i - j) j (srF (m - i) m j 0 L) else rotF m i (j - i) (srF (m - i) (m + j - i) i 0 L)) else srF (m - i) m i 0 L
termination_by i + j
decreasing_by all_goals omega
theorem rotF_length (m : Nat) : ∀ (s i j : Nat) (L : List Spn), i + j = s → (rotF m i j L).length = L.length := by
  intro s
  induction s using Nat.strongRecOn with
  | _ s ih =>
    intro i j L h
    unfold rotF
    split
    · split
      · rw [ih (i - j + j) (by omega) _ _ _ rfl, srF_length _ _ _ _ _ _ rfl]
      · rw [ih (i + (j - i)) (by omega) _ _ _ rfl, srF_length _ _ _ _ _ _ rfl]
    · rw [srF_length _ _ _ _ _ _ rfl]

set_option maxHeartbeats 8000000 in
set_option maxRecDepth 100000 in
theorem rotate_any {w : World} {base g n cap : Nat} {L : List Spn} (f : Value) (a m b : Nat) (ho : w.ownsRow base 24 8 (.slice (some ⟨g, 0, none⟩) n cap) n (cellsS L)) (hl : L.length = n) (ham : a < m) (hmb : m < b) (hb : b ≤ n) (hn : n ≤ 1000) :
    Calls Try.prog 53 #[.slice (some ⟨g, 0, none⟩) n cap, .int .i64 a, .int .i64 m, .int .i64 b, f] w fun e w' => e = .returned (.tuple #[]) ∧ w'.ownsRow base 24 8 (.slice (some ⟨g, 0, none⟩) n cap) n (cellsS (rotF m (m - a) (b - m) L)) ∧ Kept (fun k => k = g) w w' := by
  have HO0 := Lib.hid ho
  obtain ⟨i0, hi0⟩ : ∃ i, m - a = i := ⟨_, rfl⟩
  obtain ⟨j0, hj0⟩ : ∃ j, b - m = j := ⟨_, rfl⟩
  have e1 : IntKind.i64.wrap ((m : Int) - (a : Int)) = (i0 : Int) := by rw [show (m : Int) - (a : Int) = (i0 : Int) by omega]; exact IntWalk.i64_in _ (by omega)
  have e2 : IntKind.i64.wrap ((b : Int) - (m : Int)) = (j0 : Int) := by rw [show (b : Int) - (m : Int) = (j0 : Int) by omega]; exact IntWalk.i64_in _ (by omega)
  have hi1 : i0 ≤ m := by omega
  have hj1 : m + j0 ≤ n := by omega
  have hip : 0 < i0 := by omega
  have hjp : 0 < j0 := by omega
  rw [hi0, hj0]
  clear ho hi0 hj0
  go_enter Try.func53, Try.ntmps53
  go_wp2
  clear e1 e2
  go_loopg [10, 11] (i0 + j0) (fun gh s t wr => ∃ (i j : Nat) (L1 : List Spn), i + j ≤ gh ∧ 0 < i ∧ 0 < j ∧ i ≤ m ∧ m + j ≤ n ∧ s = .int .i64 i ∧ t = .int .i64 j ∧ L1.length = n ∧ wr.ownsRow base 24 8 (.slice (some ⟨g, 0, none⟩) n cap) n (cellsS L1) ∧ rotF m i j L1 = rotF m i0 j0 L ∧ Kept (fun k => k = g) w wr)
  case atStart => exact ⟨i0, j0, L, by omega, hip, hjp, hi1, hj1, rfl, rfl, hl, HO0.out, rfl, Kept.refl _ _⟩
  case round =>
    obtain ⟨i, j, L1, hg, hi, hj, him, hjn, rfl, rfl, hl1, ho1, ht1, k1⟩ := hrel
    have HG := Lib.hid hg
    have HO1 := Lib.hid ho1; have HT1 := Lib.hid ht1; have K1 := Lib.hid k1
    clear ho1 ht1 k1 hg
    obtain ⟨p, hp⟩ : ∃ p, m - i = p := ⟨_, rfl⟩
    have e3 : IntKind.i64.wrap ((m : Int) - (i : Int)) = (p : Int) := by rw [show (m : Int) - (i : Int) = (p : Int) by omega]; exact IntWalk.i64_in _ (by omega)
    have HP := Lib.hid hp
    clear hp
    by_cases hij : i = j
    · subst hij
      have hq : ((i : Int) == (i : Int)) = true := by simp
      have hend : rotF m i i L1 = srF p m i 0 L1 := by rw [rotF, dif_neg (by omega), HP.out]
      have EN := Lib.hid (hend.symm.trans HT1.out)
      clear hend
      go_wp2_with fail
      refine (swaprange_any f p m i HO1.out hl1 (by have := HP.out; omega) hjn hn).mono ?_
      rintro e w5 ⟨rfl, o5, k5⟩
      have O5 := Lib.hid o5; have K5 := Lib.hid (K1.out.trans k5 (fun _ _ h => h) (fun _ _ h => h) : Kept (fun k => k = g) w w5)
      clear o5 k5
      go_wp2
      go_end0
      exact ⟨rfl, by rw [← EN.out]; exact O5.out, K5.out⟩
    · have hq : ¬ (i : Int) = (j : Int) := by omega
      by_cases hlt : j < i
      · have e5 : (j : Int) < (i : Int) := by omega
        obtain ⟨r, hr⟩ : ∃ r, i - j = r := ⟨_, rfl⟩
        have e6 : IntKind.i64.wrap ((i : Int) - (j : Int)) = (r : Int) := by rw [show (i : Int) - (j : Int) = (r : Int) by omega]; exact IntWalk.i64_in _ (by omega)
        have hstep : rotF m i j L1 = rotF m r j (srF p m j 0 L1) := by rw [rotF, dif_pos ⟨hi, hj, hij⟩, if_pos hlt, HP.out, hr]
        have ST := Lib.hid (hstep.symm.trans HT1.out)
        have RR := Lib.hid hr
        clear hstep hr
        go_wp2_with fail
        refine (swaprange_any f p m j HO1.out hl1 (by have := HP.out; omega) hjn hn).mono ?_
        rintro e w5 ⟨rfl, o5, k5⟩
        have O5 := Lib.hid o5; have K5 := Lib.hid (K1.out.trans k5 (fun _ _ h => h) (fun _ _ h => h) : Kept (fun k => k = g) w w5)
        clear o5 k5
        go_wp2
        go_roundg (gk - 1)
        case measure => have := HG.out; omega
        case rel => exact ⟨r, j, srF p m j 0 L1, by have := HG.out; have := RR.out; omega, by have := RR.out; omega, hj, by have := RR.out; omega, hjn, by go_num, rfl, by rw [srF_length _ _ _ _ _ _ rfl]; exact hl1, O5.out, ST.out, K5.out⟩
      · have e5 : ¬ (j : Int) < (i : Int) := by omega
        obtain ⟨r, hr⟩ : ∃ r, j - i = r := ⟨_, rfl⟩
        obtain ⟨q, hq2⟩ : ∃ q, m + j - i = q := ⟨_, rfl⟩
        obtain ⟨u, hu⟩ : ∃ u, m + j = u := ⟨_, rfl⟩
        have e6 : IntKind.i64.wrap ((j : Int) - (i : Int)) = (r : Int) := by rw [show (j : Int) - (i : Int) = (r : Int) by omega]; exact IntWalk.i64_in _ (by omega)
        have e7 : IntKind.i64.wrap ((m : Int) + (j : Int)) = (u : Int) := by rw [show (m : Int) + (j : Int) = (u : Int) by omega]; exact IntWalk.i64_in _ (by omega)
        have e8 : IntKind.i64.wrap ((u : Int) - (i : Int)) = (q : Int) := by rw [show (u : Int) - (i : Int) = (q : Int) by omega]; exact IntWalk.i64_in _ (by omega)
        have hstep : rotF m i j L1 = rotF m i r (srF p q i 0 L1) := by rw [rotF, dif_pos ⟨hi, hj, hij⟩, if_neg hlt, HP.out, hr, hq2]
        have ST := Lib.hid (hstep.symm.trans HT1.out)
        have RR := Lib.hid hr; have QQ := Lib.hid hq2
        clear hstep hr hq2 hu
        go_wp2_with fail
        refine (swaprange_any f p q i HO1.out hl1 (by have := HP.out; omega) (by have := QQ.out; omega) hn).mono ?_
        rintro e w5 ⟨rfl, o5, k5⟩
        have O5 := Lib.hid o5; have K5 := Lib.hid (K1.out.trans k5 (fun _ _ h => h) (fun _ _ h => h) : Kept (fun k => k = g) w w5)
        clear o5 k5
        go_wp2
        go_roundg (gk - 1)
        case measure => have := HG.out; omega
        case rel => exact ⟨i, r, srF p q i 0 L1, by have := HG.out; have := RR.out; omega, hi, by have := RR.out; omega, him, by have := RR.out; omega, rfl, by go_num, by rw [srF_length _ _ _ _ _ _ rfl]; exact hl1, O5.out, ST.out, K5.out⟩
end Go.Proofs.Ytjidldbolbjdpaa
