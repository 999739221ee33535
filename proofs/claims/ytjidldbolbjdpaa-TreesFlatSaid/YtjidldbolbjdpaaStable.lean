/- slices.stableCmpFunc, slices.SortStableFunc over spans. -/
import Derived.Test.YtjidldbolbjdpaaStabp
import Derived.Test.YtjidldbolbjdpaaSym
namespace Go.Proofs.Ytjidldbolbjdpaa
open Go.RowKit

set_option maxHeartbeats 8000000 in
set_option maxRecDepth 100000 in
theorem stable_any {w : World} {base g n cap bk : Nat} {L : List Spn} (ho : w.ownsRow base 24 8 (.slice (some ⟨g, 0, none⟩) n cap) n (cellsS L)) (hl : L.length = n) (hn : n ≤ 1000) (hk : w.cell? ⟨bk, 0, none⟩ = some (.func (.func 33) #[] #[])) (hne : bk ≠ g) :
    Calls Try.prog 49 #[.slice (some ⟨g, 0, none⟩) n cap, .int .i64 n, cmpV bk] w fun e w' => e = .returned (.tuple #[]) ∧ ∃ L', w'.ownsRow base 24 8 (.slice (some ⟨g, 0, none⟩) n cap) n (cellsS L') ∧ Moved 0 n L L' ∧ SortedOn L' 0 n ∧ Kept (fun k => k = g) w w' := by
  have HO0 := Lib.hid ho; have HK0 := Lib.hid hk
  clear ho hk
  go_enter Try.func49, Try.ntmps49
  go_wp2
  go_loopg [7, 8] n (fun gh s t wr => ∃ (a b : Nat) (L1 : List Spn), a + gh = n ∧ b = a + 20 ∧ s = .int .i64 a ∧ t = .int .i64 b ∧ L1.length = n ∧ wr.ownsRow base 24 8 (.slice (some ⟨g, 0, none⟩) n cap) n (cellsS L1) ∧ Moved 0 n L L1 ∧ Ins 20 a L1 ∧ Kept (fun k => k = g) w wr)
  case atStart => exact ⟨0, 20, L, by omega, rfl, by go_num, by go_num, hl, HO0.out, Moved.refl _ _ _, Ins.start _ _, Kept.refl _ _⟩
  case round =>
    obtain ⟨a, b, L1, hg, hb, rfl, rfl, hl1, ho1, mv1, in1, k1⟩ := hrel
    have HG := Lib.hid hg; have HB := Lib.hid hb; have HO1 := Lib.hid ho1; have M1 := Lib.hid mv1; have I1 := Lib.hid in1; have K1 := Lib.hid k1
    have han : a ≤ n := by omega
    have hbn2 : b ≤ n + 20 := by omega
    clear hg hb ho1 mv1 in1 k1
    have hb0 := K1.out.cell HK0.out hne
    by_cases hbn : b ≤ n
    · have e1 : (b : Int) ≤ (n : Int) := by omega
      have fa := insert_facts (L := L1) (a := a) (b := b) (by omega)
      have FA := Lib.hid fa
      have e2 : IntKind.i64.wrap ((b : Int) + 20) = ((b + 20 : Nat) : Int) := by rw [show (b : Int) + 20 = ((b + 20 : Nat) : Int) by omega]; exact IntWalk.i64_in _ (by omega)
      clear fa
      go_wp2_with fail
      refine (insert_any a b HO1.out hl1 han hbn hn hb0 hne).mono ?_
      rintro e w5 ⟨rfl, o5, k5⟩
      have O5 := Lib.hid o5; have K5 := Lib.hid (K1.out.trans k5 (fun _ _ h => h) (fun _ _ h => h) : Kept (fun k => k = g) w w5)
      clear o5 k5
      go_wp2
      go_roundg (n - b)
      case measure => have := HG.out; have := HB.out; omega
      case rel => 
        have hb2 := HB.out
        exact ⟨b, b + 20, insF a b (a + 1) L1, by omega, rfl, rfl, by go_num, FA.out.1.len.trans hl1, O5.out, M1.out.trans (FA.out.1.wider (by omega) hbn), by have h := I1.out.next (L' := insF a b (a + 1) L1) (by rw [← hb2]; exact FA.out.1) (by rw [← hb2]; exact FA.out.2); rw [← hb2] at h; exact h, K5.out⟩
    · have e1 : ¬ (b : Int) ≤ (n : Int) := by omega
      have fa := insert_facts (L := L1) (a := a) (b := n) (by omega)
      have FA := Lib.hid fa
      have BL := Lib.hid (I1.out.done (by have := HB.out; omega) fa.1 fa.2)
      clear fa
      go_wp2_with fail
      refine (insert_any a n HO1.out hl1 han (Nat.le_refl _) hn hb0 hne).mono ?_
      rintro e w5 ⟨rfl, o5, k5⟩
      have HO2 := Lib.hid o5; have K2 := Lib.hid (K1.out.trans k5 (fun _ _ h => h) (fun _ _ h => h) : Kept (fun k => k = g) w w5)
      have M2 := Lib.hid (M1.out.trans (FA.out.1.wider (Nat.zero_le _) (Nat.le_refl _)))
      have hl2 : (insF a n (a + 1) L1).length = n := FA.out.1.len.trans hl1
      clear o5 k5 HO1 K1 M1 FA I1 hl1 hb0
      generalize insF a n (a + 1) L1 = L2 at *
      clear e1 hbn han hbn2 HG HB
      go_wp2
      go_loopg [6, 7, 8, 9] (n - 20) (fun gh r _ _ _ wr => ∃ (B : Nat) (L1 : List Spn), n - B = gh ∧ 0 < B ∧ B ≤ 2000 ∧ r = .int .i64 B ∧ L1.length = n ∧ wr.ownsRow base 24 8 (.slice (some ⟨g, 0, none⟩) n cap) n (cellsS L1) ∧ Moved 0 n L L1 ∧ Blks B n L1 ∧ Kept (fun k => k = g) w wr)
      case atStart => exact ⟨20, L2, rfl, by omega, by omega, by go_num, hl2, HO2.out, M2.out, BL.out, K2.out⟩
      case round =>
        obtain ⟨B, L3, hg, hB, hB2, rfl, hl3, ho3, mv3, bl3, k3⟩ := hrel
        have HG := Lib.hid hg; have HO3 := Lib.hid ho3; have M3 := Lib.hid mv3; have B3 := Lib.hid bl3; have K3 := Lib.hid k3
        clear hg ho3 mv3 bl3 k3 HO2 M2 BL K2 hl2
        by_cases hBn : B < n
        · have e1 : (B : Int) < (n : Int) := by omega
          obtain ⟨C, hC⟩ : ∃ C, 2 * B = C := ⟨_, rfl⟩
          have e2 : IntKind.i64.wrap (2 * (B : Int)) = (C : Int) := by rw [show 2 * (B : Int) = (C : Int) by omega]; exact IntWalk.i64_in _ (by omega)
          have e3 : IntKind.i64.wrap ((B : Int) * 2) = (C : Int) := by rw [show (B : Int) * 2 = (C : Int) by omega]; exact IntWalk.i64_in _ (by omega)
          have HC := Lib.hid hC
          have hC2 : C ≤ 2000 := by omega
          have hCB : B < C := by omega
          clear hC
          go_wp2
          go_loopg [7, 8] n (fun gh s t wr => ∃ (a b : Nat) (L1 : List Spn), a + gh = n ∧ b = a + C ∧ s = .int .i64 a ∧ t = .int .i64 b ∧ L1.length = n ∧ wr.ownsRow base 24 8 (.slice (some ⟨g, 0, none⟩) n cap) n (cellsS L1) ∧ Moved 0 n L L1 ∧ Blk C B n a L1 ∧ Kept (fun k => k = g) w wr)
          case atStart => exact ⟨0, C, L3, by omega, by omega, by go_num, rfl, hl3, HO3.out, M3.out, by rw [← HC.out]; exact B3.out.start, K3.out⟩
          case round =>
            obtain ⟨a, b, L4, hg, hb, rfl, rfl, hl4, ho4, mv4, bl4, k4⟩ := hrel
            have HGa := Lib.hid hg; have HB := Lib.hid hb; have HO4 := Lib.hid ho4; have M4 := Lib.hid mv4; have B4 := Lib.hid bl4; have K4 := Lib.hid k4
            have han : a ≤ n := by omega
            have hbn2 : b ≤ n + 2000 := by omega
            obtain ⟨m, hm⟩ : ∃ m, a + B = m := ⟨_, rfl⟩
            have e4 : IntKind.i64.wrap ((a : Int) + (B : Int)) = (m : Int) := by rw [show (a : Int) + (B : Int) = (m : Int) by omega]; exact IntWalk.i64_in _ (by omega)
            have HM := Lib.hid hm
            have ham : a < m := by omega
            have hmn2 : m ≤ n + 2000 := by omega
            clear hg hb ho4 mv4 bl4 k4 hm
            have hb0 := K4.out.cell HK0.out hne
            by_cases hbn : b ≤ n
            · have e5 : (b : Int) ≤ (n : Int) := by omega
              have e6 : IntKind.i64.wrap ((b : Int) + (C : Int)) = ((b + C : Nat) : Int) := by rw [show (b : Int) + (C : Int) = ((b + C : Nat) : Int) by omega]; exact IntWalk.i64_in _ (by omega)
              have hmb : m < b := by have := HM.out; have := HB.out; omega
              have HH := Lib.hid ((HC.out ▸ B4.out : Blk (2 * B) B n a L4).halves (e := b) (by have := HM.out; omega) hbn (by have := HC.out; have := HB.out; omega))
              rw [HM.out] at HH
              go_wp2_with fail
              refine (sym_any _ a m b rfl HO4.out hl4 ham hmb hbn hn hb0 hne HH.out.1 HH.out.2).mono ?_
              rintro e w5 ⟨rfl, L5, o5, mv5, so5, k5⟩
              have O5 := Lib.hid o5; have MV5 := Lib.hid mv5; have SO5 := Lib.hid so5; have K5 := Lib.hid (K4.out.trans k5 (fun _ _ h => h) (fun _ _ h => h) : Kept (fun k => k = g) w w5)
              clear o5 mv5 so5 k5
              go_wp2
              go_roundg (n - b)
              case measure => have := HGa.out; have := HB.out; omega
              case rel => 
                have hb2 := HB.out
                exact ⟨b, b + C, L5, by omega, rfl, rfl, by go_num, MV5.out.len.trans hl4, O5.out, M4.out.trans (MV5.out.wider (Nat.zero_le _) hbn), by
                  have hc := HC.out
                  subst hc
                  have h := B4.out.next (L' := L5) (by rw [← hb2]; exact MV5.out) (by rw [← hb2]; exact SO5.out) hB
                  rw [← hb2] at h; exact h, K5.out⟩
            · have e5 : ¬ (b : Int) ≤ (n : Int) := by omega
              by_cases hmn : m < n
              · have e7 : (m : Int) < (n : Int) := by omega
                have HH := Lib.hid ((HC.out ▸ B4.out : Blk (2 * B) B n a L4).halves (e := n) (by have := HM.out; omega) (Nat.le_refl _) (by have := HC.out; have := HB.out; omega))
                rw [HM.out] at HH
                go_wp2_with fail
                refine (sym_any _ a m n rfl HO4.out hl4 ham hmn (Nat.le_refl _) hn hb0 hne HH.out.1 HH.out.2).mono ?_
                rintro e w5 ⟨rfl, L5, o5, mv5, so5, k5⟩
                have O5 := Lib.hid o5; have MV5 := Lib.hid mv5; have SO5 := Lib.hid so5; have K5 := Lib.hid (K4.out.trans k5 (fun _ _ h => h) (fun _ _ h => h) : Kept (fun k => k = g) w w5)
                clear o5 mv5 so5 k5
                go_wp2
                go_roundg (n - C)
                case measure => have := HG.out; omega
                case rel => exact ⟨C, L5, rfl, by omega, hC2, by go_num, MV5.out.len.trans hl4, O5.out, M4.out.trans (MV5.out.wider (Nat.zero_le _) (Nat.le_refl _)), by
                  have hc := HC.out
                  subst hc
                  exact B4.out.done (by have := HB.out; omega) MV5.out SO5.out, K5.out⟩
              · have e7 : ¬ (m : Int) < (n : Int) := by omega
                go_wp2
                go_roundg (n - C)
                case measure => have := HG.out; omega
                case rel => exact ⟨C, L4, rfl, by omega, hC2, by go_num, hl4, HO4.out, M4.out, by
                  have hc := HC.out
                  subst hc
                  exact B4.out.done (by have := HB.out; omega) (Moved.refl _ _ _) (B4.out.last (by have := HM.out; omega)), K4.out⟩
        · have e1 : ¬ (B : Int) < (n : Int) := by omega
          go_wp2
          go_end0
          exact ⟨rfl, L3, HO3.out, M3.out, B3.out.all (by omega), K3.out⟩

set_option maxHeartbeats 2000000 in
theorem sort_any {w : World} {base g n cap bk : Nat} {L : List Spn} (ho : w.ownsRow base 24 8 (.slice (some ⟨g, 0, none⟩) n cap) n (cellsS L)) (hl : L.length = n) (hn : n ≤ 1000) (hk : w.cell? ⟨bk, 0, none⟩ = some (.func (.func 33) #[] #[])) (hne : bk ≠ g) :
    Calls Try.prog 41 #[.slice (some ⟨g, 0, none⟩) n cap, cmpV bk] w fun e w' => e = .returned (.tuple #[]) ∧ ∃ L', w'.ownsRow base 24 8 (.slice (some ⟨g, 0, none⟩) n cap) n (cellsS L') ∧ Moved 0 n L L' ∧ SortedOn L' 0 n ∧ Kept (fun k => k = g) w w' := by
  have HO0 := Lib.hid ho
  clear ho
  go_enter Try.func41, Try.ntmps41
  go_wp2_with fail
  refine (stable_any HO0.out hl hn hk hne).mono ?_
  rintro e w5 ⟨rfl, L5, o5, mv5, so5, k5⟩
  have O5 := Lib.hid o5; have K5 := Lib.hid k5
  clear o5 k5
  go_wp2
  go_end0
  exact ⟨rfl, L5, O5.out, mv5, so5, K5.out⟩
end Go.Proofs.Ytjidldbolbjdpaa
