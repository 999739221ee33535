/- TSym, TStable -/
import Derived.Test.YtibakmchgppndaaP4
/- slices.symMergeCmpFunc over spans. -/
namespace Go.Proofs.Ytibakmchgppndaa
open Go.RowKit

set_option maxHeartbeats 16000000 in
set_option maxRecDepth 100000 in
theorem sym_any : ∀ (s : Nat) {w : World} {base g n cap bk : Nat} {L : List Spn} (a m b : Nat), b - a = s → w.ownsRow base 37 8 (.slice (some ⟨g, 0, none⟩) n cap) n (cellsS L) → L.length = n → a < m → m < b → b ≤ n → n ≤ 1000 → w.cell? ⟨bk, 0, none⟩ = some (.func (.func 73) #[] #[]) → bk ≠ g → SortedOn L a m → SortedOn L m b →
  Calls Try.prog 93 #[.slice (some ⟨g, 0, none⟩) n cap, .int .i64 a, .int .i64 m, .int .i64 b, cmpV bk] w fun e w' => e = .returned (.tuple #[]) ∧ ∃ L', w'.ownsRow base 37 8 (.slice (some ⟨g, 0, none⟩) n cap) n (cellsS L') ∧ Moved a b L L' ∧ SortedOn L' a b ∧ Kept (fun k => k = g) w w' := by
 intro s
 induction s using Nat.strongRecOn with
 | _ s ih =>
 intro w base g n cap bk L a m b hs ho hl ham hmb hbn hn hk hne s1 s2
 have IH := Lib.hid ih; have HO0 := Lib.hid ho; have HK0 := Lib.hid hk; have S1 := Lib.hid s1; have S2 := Lib.hid s2; have HS := Lib.hid hs
 clear ih ho hk s1 s2 hs
 unfold cmpV
 by_cases hA : m = a + 1
 ·have e1 : IntKind.i64.wrap ((m : Int) - (a : Int)) = 1 := by rw [show (m : Int) - (a : Int) = 1 by omega]; exact IntWalk.i64_in _ (by omega)
  have MA := Lib.hid hA
  clear hA
  obtain ⟨x, hx⟩ : ∃ x, nth L a = x := ⟨_, rfl⟩
  have gx := nth_get (l := L) (k := a) (by omega)
  rw [hx] at gx
  have HX := Lib.hid hx; have GX := Lib.hid gx
  clear hx gx
  go_enter Try.func93, Try.ntmps93
  go_wp2
  clear e1
  go_loopg [10, 11] (b - m) (fun gh s t wr => ∃ (i j : Nat), i + gh = j ∧ m ≤ i ∧ j ≤ b ∧ s = .int .i64 i ∧ t = .int .i64 j ∧ (∀ k, m ≤ k → k < i → (nth L k).id < x.id) ∧ (∀ k, j ≤ k → k < b → x.id ≤ (nth L k).id) ∧ Kept (fun _ => False) w wr)
  case atStart => exact ⟨m, b, by omega, Nat.le_refl _, Nat.le_refl _, rfl, rfl, fun k h1 h2 => by omega, fun k h1 h2 => by omega, Kept.refl _ _⟩
  case round =>
   obtain ⟨i, j, hg, hmi, hjb, rfl, rfl, lo, hi, kw⟩ := hrel
   have HG := Lib.hid hg; have LO := Lib.hid lo; have HI := Lib.hid hi; have KW := Lib.hid kw
   have HO1 := Lib.hid (own_keptS HO0.out kw (fun _ _ f => f))
   have hb0 := kw.cell HK0.out (fun f => f)
   clear hg lo hi kw
   by_cases hij : i < j
   ·have i0 : (i : Int) < (j : Int) := by omega
    obtain ⟨u, hu⟩ : ∃ u, i + j = u := ⟨_, rfl⟩
    have e2 : IntKind.i64.wrap ((i : Int) + (j : Int)) = (u : Int) := by rw [show (i : Int) + (j : Int) = (u : Int) by omega]; exact IntWalk.i64_in _ (by omega)
    obtain ⟨h, hh⟩ : ∃ h, u / 2 = h := ⟨_, rfl⟩
    have UH := Lib.hid hu; have HH := Lib.hid hh
    have hul : u ≤ 2000 := by omega
    have e3 : (u : Int) / 2 = (h : Int) := by omega
    have hb1 : i ≤ h := by omega
    have hb2 : h < j := by omega
    clear hu hh
    obtain ⟨y, hy⟩ : ∃ y, nth L h = y := ⟨_, rfl⟩
    have gy := nth_get (l := L) (k := h) (by omega)
    rw [hy] at gy
    have HY := Lib.hid hy
    have ry := own_range HO1.out gy
    have rx := own_range HO1.out GX.out
    have i1 : (0 : Int) ≤ (h : Int) := by omega
    have i2 : (h : Int) < (n : Int) := by omega
    have i3 : (0 : Int) ≤ (a : Int) := by omega
    have i4 : (a : Int) < (n : Int) := by omega
    clear hy gy
    by_cases hlt : y.id < x.id
    ·have ec : cmpI y.id x.id < 0 := by unfold cmpI; rw [if_pos hlt]; omega
     go_wp2
     refine wp_region_held_drew (S := (fun w' => w'.cell? ⟨bk, 0, none⟩ = some (.func (.func 73) #[] #[]) ∧ w'.rangeAt g (h * 8) y.cells ∧ w'.rangeAt g (a * 8) x.cells)) (by kernel_rfl) ?_ (fun hHeld => ?_)
     ·exact ⟨hb0, ry, rx⟩
     refine tW 0 opAt0 hHeld ?_
     (try simp only [Act.put]); try simp only [z2, List.set]
     refine tW 1 opAt1 hHeld ?_
     (try simp only [Act.put]); try simp only [z2, List.set]
     refine tW 2 opAt2 hHeld ?_
     (try simp only [Act.put]); try simp only [z2, List.set]
     refine tW 3 opAt3 hHeld ?_
     (try simp only [Act.put]); try simp only [z2, List.set]
     refine wpAnyH_take (i := 4) (v := .agg y.cells.toArray) opAt4 (by kernel_rfl) (by kernel_rfl) (by kernel_rfl) (fun _ _ _ h => h) (yieldsIf_load_mid (by rfl) 37 _ (by rfl) g (h * 8) (by rfl) y.cells _ (fun w hS => hS.2.1) Try.underlying37 rfl info24) hHeld ?_
     (try simp only [Act.put]); try simp only [z2, List.set]
     refine tW 5 opAt5 hHeld ?_
     (try simp only [Act.put]); try simp only [z2, List.set]
     refine tW 6 opAt6 hHeld ?_
     (try simp only [Act.put]); try simp only [z2, List.set]
     refine tW 7 opAt7 hHeld ?_
     (try simp only [Act.put]); try simp only [z2, List.set]
     refine wpAnyH_take (i := 8) (v := .agg x.cells.toArray) opAt8 (by kernel_rfl) (by kernel_rfl) (by kernel_rfl) (fun _ _ _ h => h) (yieldsIf_load_mid (by rfl) 37 _ (by rfl) g (a * 8) (by rfl) x.cells _ (fun w hS => hS.2.2) Try.underlying37 rfl info24) hHeld ?_
     (try simp only [Act.put]); try simp only [z2, List.set]
     refine wpAnyH_ready (rs := [9]) (by kernel_rfl) (by simp) ?_
     refine AllReadyH.cons opAt9 (fun K hK => ?_) AllReadyH.nil
     go_simp
     go_at_call 86; refine (cmp_call y x bk _ hHeld.1).mono ?_; rintro e w5 ⟨rfl, k5⟩; have K5 := Lib.hid k5; dsimp only
     refine hK.out _ _ ?_ (fun hHeld => ?_)
     ·exact ⟨k5.cell hHeld.1 (fun f => f), fun k v hv => k5.cell (hHeld.2.1 k v hv) (fun f => f), fun k v hv => k5.cell (hHeld.2.2 k v hv) (fun f => f)⟩
     clear hK K
     (try simp only [Act.put]); try simp only [z2, List.set]
     refine tW 10 opAt10 hHeld ?_
     (try simp only [Act.put]); try simp only [z2, List.set]
     refine wpAnyH_done (by kernel_rfl) ?_ _
     go_wp2
     go_roundg (j - (h + 1))
     case measure => have := HG.out; omega
     case rel => exact ⟨h + 1, j, by omega, by omega, hjb, by go_num, rfl, fun k k1 k2 => by have := S2.out k h k1 (by omega) (by omega); rw [HY.out] at this; omega, HI.out, KW.out.drew.trans K5.out (fun _ _ f => f) (fun _ _ f => f)⟩
    ·have ec : ¬ cmpI y.id x.id < 0 := by unfold cmpI; rw [if_neg hlt]; split <;> omega
     go_wp2
     refine wp_region_held_drew (S := (fun w' => w'.cell? ⟨bk, 0, none⟩ = some (.func (.func 73) #[] #[]) ∧ w'.rangeAt g (h * 8) y.cells ∧ w'.rangeAt g (a * 8) x.cells)) (by kernel_rfl) ?_ (fun hHeld => ?_)
     ·exact ⟨hb0, ry, rx⟩
     refine tW 0 opAt0 hHeld ?_
     (try simp only [Act.put]); try simp only [z2, List.set]
     refine tW 1 opAt1 hHeld ?_
     (try simp only [Act.put]); try simp only [z2, List.set]
     refine tW 2 opAt2 hHeld ?_
     (try simp only [Act.put]); try simp only [z2, List.set]
     refine tW 3 opAt3 hHeld ?_
     (try simp only [Act.put]); try simp only [z2, List.set]
     refine wpAnyH_take (i := 4) (v := .agg y.cells.toArray) opAt4 (by kernel_rfl) (by kernel_rfl) (by kernel_rfl) (fun _ _ _ h => h) (yieldsIf_load_mid (by rfl) 37 _ (by rfl) g (h * 8) (by rfl) y.cells _ (fun w hS => hS.2.1) Try.underlying37 rfl info24) hHeld ?_
     (try simp only [Act.put]); try simp only [z2, List.set]
     refine tW 5 opAt5 hHeld ?_
     (try simp only [Act.put]); try simp only [z2, List.set]
     refine tW 6 opAt6 hHeld ?_
     (try simp only [Act.put]); try simp only [z2, List.set]
     refine tW 7 opAt7 hHeld ?_
     (try simp only [Act.put]); try simp only [z2, List.set]
     refine wpAnyH_take (i := 8) (v := .agg x.cells.toArray) opAt8 (by kernel_rfl) (by kernel_rfl) (by kernel_rfl) (fun _ _ _ h => h) (yieldsIf_load_mid (by rfl) 37 _ (by rfl) g (a * 8) (by rfl) x.cells _ (fun w hS => hS.2.2) Try.underlying37 rfl info24) hHeld ?_
     (try simp only [Act.put]); try simp only [z2, List.set]
     refine wpAnyH_ready (rs := [9]) (by kernel_rfl) (by simp) ?_
     refine AllReadyH.cons opAt9 (fun K hK => ?_) AllReadyH.nil
     go_simp
     go_at_call 86; refine (cmp_call y x bk _ hHeld.1).mono ?_; rintro e w5 ⟨rfl, k5⟩; have K5 := Lib.hid k5; dsimp only
     refine hK.out _ _ ?_ (fun hHeld => ?_)
     ·exact ⟨k5.cell hHeld.1 (fun f => f), fun k v hv => k5.cell (hHeld.2.1 k v hv) (fun f => f), fun k v hv => k5.cell (hHeld.2.2 k v hv) (fun f => f)⟩
     clear hK K
     (try simp only [Act.put]); try simp only [z2, List.set]
     refine tW 10 opAt10 hHeld ?_
     (try simp only [Act.put]); try simp only [z2, List.set]
     refine wpAnyH_done (by kernel_rfl) ?_ _
     go_wp2
     go_roundg (h - i)
     case measure => have := HG.out; omega
     case rel => exact ⟨i, h, by omega, hmi, by omega, rfl, rfl, LO.out, fun k k1 k2 => by have := S2.out h k (by omega) k1 k2; rw [HY.out] at this; omega, KW.out.drew.trans K5.out (fun _ _ f => f) (fun _ _ f => f)⟩
   ·have i0 : ¬ (i : Int) < (j : Int) := by omega
    obtain ⟨e0, he0⟩ : ∃ e, i - 1 = e := ⟨_, rfl⟩
    have e4 : IntKind.i64.wrap ((i : Int) - 1) = (e0 : Int) := by rw [show (i : Int) - 1 = (e0 : Int) by have := MA.out; omega]; exact IntWalk.i64_in _ (by have := MA.out; have := HG.out; omega)
    have hij2 : i = j := by have := HG.out; omega
    have EI := Lib.hid (show i = e0 + 1 ∧ a ≤ e0 from by have := MA.out; omega)
    have IJ := Lib.hid hij2
    have hle1 : e0 + 1 ≤ b := by have := EI.out; omega
    have hle2 : a ≤ e0 := by have := EI.out; omega
    clear he0 hij2
    go_wp2
    go_loopg [13] (e0 - a) (fun gh t wr => ∃ (k : Nat) (L1 : List Spn), k + gh = e0 ∧ a ≤ k ∧ t = .int .i64 k ∧ L1.length = n ∧ wr.ownsRow base 37 8 (.slice (some ⟨g, 0, none⟩) n cap) n (cellsS L1) ∧ nth L1 k = x ∧ (∀ t, a ≤ t → t < k → nth L1 t = nth L (t + 1)) ∧ (∀ t, t < a ∨ k < t → nth L1 t = nth L t) ∧ Moved a b L L1 ∧ Kept (fun k => k = g) w wr)
    case atStart => exact ⟨a, L, by have := EI.out; omega, Nat.le_refl _, rfl, hl, HO1.out, HX.out, fun t h1 h2 => by omega, fun t h => rfl, Moved.refl _ _ _, KW.out.mono (fun _ _ f => f.elim)⟩
    case round =>
     obtain ⟨k, L1, hg, hak, rfl, hl1, ho1, p1, p2, p3, mv, k1⟩ := hrel
     have HGk := Lib.hid hg; have HO1 := Lib.hid ho1; have P1 := Lib.hid p1; have P2 := Lib.hid p2; have P3 := Lib.hid p3; have MV := Lib.hid mv; have K1 := Lib.hid k1
     clear hg ho1 p1 p2 p3 mv k1
     by_cases hke : k < e0
     ·have i5 : (k : Int) < (e0 : Int) := by omega
      obtain ⟨q, hq⟩ : ∃ q, k + 1 = q := ⟨_, rfl⟩
      have e5 : IntKind.i64.wrap ((k : Int) + 1) = (q : Int) := by rw [show (k : Int) + 1 = (q : Int) by omega]; exact IntWalk.i64_in _ (by have := EI.out; omega)
      have hjl : k < L1.length := by have := EI.out; omega
      have hql : q < L1.length := by have := EI.out; omega
      obtain ⟨y, hy⟩ : ∃ y, nth L1 q = y := ⟨_, rfl⟩
      have gx := nth_get hjl; have gy := nth_get hql
      rw [P1.out] at gx; rw [hy] at gy
      have HLT := Lib.hid (show y.id < x.id by rw [← hy, P3.out q (by omega)]; exact LO.out q (by have := MA.out; omega) (by have := EI.out; omega))
      have GX := Lib.hid gx; have GY := Lib.hid gy; have HX := Lib.hid P1.out; have HY := Lib.hid hy; have HX1 := Lib.hid P1.out; have HY1 := Lib.hid hy
      have HQ := Lib.hid hq.symm
      have i6 : (0 : Int) ≤ (k : Int) := by omega
      have i7 : (k : Int) < (n : Int) := by omega
      have i8 : (0 : Int) ≤ (q : Int) := by omega
      have i9 : (q : Int) < (n : Int) := by omega
      clear gx gy hy hq
      have HO := Lib.hid ((HO1.out).drew)
      have rx := own_range HO.out GX.out
      have ry := own_range HO.out GY.out
      have HO2 := Lib.hid (own_set HO.out y hjl)
      have FO := Lib.hid (show ((wr.drew.setCells g (k * 8) y.cells).setCells g (q * 8) x.cells).ownsRow base 37 8 (.slice (some ⟨g, 0, none⟩) n cap) n (cellsS (swapL L1 k q)) from by
       have h := own_set HO2.out x (i := q) (by simpa using hql)
       unfold swapL
       rw [HX.out, HY.out]
       exact h)
      have KF6 := Lib.hid (Kept.setCells (S := fun k => k = g) (fun _ => rfl) x.cells (q * 8) (Kept.setCells (S := fun k => k = g) (fun _ => rfl) y.cells (k * 8) ((K1.out).drew)))
      go_wp2
      refine wp_region_any (by kernel_rfl) ?_
      simp only [List.size_toArray, List.length_cons, List.length_nil, Nat.zero_add, Nat.reduceAdd]
      refine tA (v := ?_) 0 opAt0 ?_ ?_
      case refine_2 => (intro w; go_simp; all_goals (with_reducible rfl))
      (try simp only [Act.put]); try simp only [z2, List.set]
      refine tA (v := ?_) 1 opAt1 ?_ ?_
      case refine_2 => (intro w; go_simp; all_goals (with_reducible rfl))
      (try simp only [Act.put]); try simp only [z2, List.set]
      refine tA (v := ?_) 2 opAt2 ?_ ?_
      case refine_2 => (intro w; go_simp; all_goals (with_reducible rfl))
      (try simp only [Act.put]); try simp only [z2, List.set]
      refine tA (v := ?_) 3 opAt3 ?_ ?_
      case refine_2 => (intro w; go_simp; all_goals (with_reducible rfl))
      (try simp only [Act.put]); try simp only [z2, List.set]
      refine tA (v := ?_) 4 opAt4 ?_ ?_
      case refine_2 => (intro w; go_simp; all_goals (with_reducible rfl))
      (try simp only [Act.put]); try simp only [z2, List.set]
      refine tA (v := ?_) 5 opAt5 ?_ ?_
      case refine_2 => (intro w; go_simp; all_goals (with_reducible rfl))
      (try simp only [Act.put]); try simp only [z2, List.set]
      refine tA (v := ?_) 6 opAt6 ?_ ?_
      case refine_2 => (intro w; go_simp; all_goals (with_reducible rfl))
      (try simp only [Act.put]); try simp only [z2, List.set]
      refine tA (v := ?_) 7 opAt7 ?_ ?_
      case refine_2 => (intro w; go_simp; all_goals (with_reducible rfl))
      (try simp only [Act.put]); try simp only [z2, List.set]
      refine tA (v := ?_) 8 opAt8 ?_ ?_
      case refine_2 => (intro w; go_simp; all_goals (with_reducible rfl))
      (try simp only [Act.put]); try simp only [z2, List.set]
      refine tA (v := ?_) 10 opAt10 ?_ ?_
      case refine_2 => (intro w; go_simp; all_goals (with_reducible rfl))
      (try simp only [Act.put]); try simp only [z2, List.set]
      refine tA (v := ?_) 11 opAt11 ?_ ?_
      case refine_2 => (intro w; go_simp; all_goals (with_reducible rfl))
      (try simp only [Act.put]); try simp only [z2, List.set]
      refine tA (v := ?_) 12 opAt12 ?_ ?_
      case refine_2 => (intro w; go_simp; all_goals (with_reducible rfl))
      (try simp only [Act.put]); try simp only [z2, List.set]
      refine wpAny_ready (rs := [9, 13]) (by kernel_rfl) (by simp) ?_
      refine AllReady.cons opAt9 (fun K hK => ?_) ?_
      ·refine step_load (by rfl) 37 _ (by rfl) g (q * 8) (by rfl) y.cells _ ry Try.underlying37 rfl info24 ?_
       refine hK _ _ ?_
       clear hK K
       (try simp only [Act.put]); try simp only [z2, List.set]
       refine wpAny_ready (rs := [13]) (by kernel_rfl) (by simp) ?_
       refine AllReady.cons opAt13 (fun K hK => ?_) AllReady.nil
       refine step_load (by rfl) 37 _ (by rfl) g (k * 8) (by rfl) x.cells _ rx Try.underlying37 rfl info24 ?_
       refine hK _ _ ?_
       clear hK K
       (try simp only [Act.put]); try simp only [z2, List.set]
       refine tA (v := ?_) 14 opAt14 ?_ ?_
       case refine_2 => (intro w; go_simp; all_goals (with_reducible rfl))
       (try simp only [Act.put]); try simp only [z2, List.set]
       refine wpAny_ready (rs := [15]) (by kernel_rfl) (by simp) ?_
       refine AllReady.cons opAt15 (fun K hK => ?_) AllReady.nil
       refine step_store (by rfl) 37 _ _ (by rfl) g (k * 8) y.cells (by rfl) (by rfl) (own_there HO.out hjl) info24 (cells_all y) ?_
       refine hK _ _ ?_
       clear hK K
       (try simp only [Act.put]); try simp only [z2, List.set]
       refine tA (v := ?_) 16 opAt16 ?_ ?_
       case refine_2 => (intro w; go_simp; all_goals (with_reducible rfl))
       (try simp only [Act.put]); try simp only [z2, List.set]
       generalize hW2 : World.setCells _ g (k * 8) y.cells = W2
       have HOb : Hid (W2.ownsRow base 37 8 (.slice (some ⟨g, 0, none⟩) n cap) n (cellsS (L1.set k y))) := Lib.hid (by rw [← hW2]; exact HO2.out)
       have FOb : Hid ((W2.setCells g (q * 8) x.cells).ownsRow base 37 8 (.slice (some ⟨g, 0, none⟩) n cap) n (cellsS (swapL L1 k q))) := Lib.hid (by rw [← hW2]; exact FO.out)
       have KFb : Hid (Kept (fun k => k = g) w (W2.setCells g (q * 8) x.cells)) := Lib.hid (by rw [← hW2]; exact KF6.out)
       clear hW2
       refine wpAny_last (i := 17) (o := ?o1) ?hr1 ?ho1 ?hn1 ?h1
       case ho1 => exact opAt17
       case hr1 => kernel_rfl
       case hn1 => kernel_rfl
       intro K hK
       refine step_store (by rfl) 37 _ _ (by rfl) g (q * 8) x.cells (by rfl) (by rfl) (own_there HOb.out (by simpa using hql)) info24 (cells_all x) ?_
       refine hK.out _ _ ?_
       clear hK K
       (try simp only [Act.put]); try simp only [z2, List.set]
       generalize hW3 : World.setCells W2 g (q * 8) x.cells = W3
       have FOc : Hid (W3.ownsRow base 37 8 (.slice (some ⟨g, 0, none⟩) n cap) n (cellsS (swapL L1 k q))) := Lib.hid (by rw [← hW3]; exact FOb.out)
       have KFc : Hid (Kept (fun k => k = g) w W3) := Lib.hid (by rw [← hW3]; exact KFb.out)
       clear hW3
       go_wp2
       go_roundg (e0 - q)
       case measure => have := HQ.out; have := HGk.out; omega
       case rel =>
        have hq := HQ.out
        have sn := nth_swap L1 hjl hql
        refine ⟨q, swapL L1 k q, by omega, by omega, by go_num, by simpa using hl1, FOc.out, ?_, ?_, ?_, ?_, KFc.out⟩
        ·rw [sn, if_pos rfl]; exact P1.out
        ·intro t t1 t2
         rw [sn, if_neg (by omega)]
         by_cases c : t = k
         ·subst c; rw [if_pos rfl, hq]; exact P3.out _ (by omega)
         ·rw [if_neg c]; exact P2.out t t1 (by omega)
        ·intro t t1
         rw [sn, if_neg (by omega), if_neg (by omega)]; exact P3.out t (by omega)
        ·refine MV.out.trans ?_
         have h := moved_swap (L := L1) (a := a) (b := b) (k := k) (by omega) (by omega) (by omega) (by rw [HX1.out, ← hq, HY1.out]; have := HLT.out; omega)
         rw [← hq] at h; exact h
      refine AllReady.cons opAt13 (fun K hK => ?_) AllReady.nil
      refine step_load (by rfl) 37 _ (by rfl) g (k * 8) (by rfl) x.cells _ rx Try.underlying37 rfl info24 ?_
      refine hK _ _ ?_
      clear hK K
      (try simp only [Act.put]); try simp only [z2, List.set]
      refine wpAny_ready (rs := [9]) (by kernel_rfl) (by simp) ?_
      refine AllReady.cons opAt9 (fun K hK => ?_) AllReady.nil
      refine step_load (by rfl) 37 _ (by rfl) g (q * 8) (by rfl) y.cells _ ry Try.underlying37 rfl info24 ?_
      refine hK _ _ ?_
      clear hK K
      (try simp only [Act.put]); try simp only [z2, List.set]
      refine tA (v := ?_) 14 opAt14 ?_ ?_
      case refine_2 => (intro w; go_simp; all_goals (with_reducible rfl))
      (try simp only [Act.put]); try simp only [z2, List.set]
      refine wpAny_ready (rs := [15]) (by kernel_rfl) (by simp) ?_
      refine AllReady.cons opAt15 (fun K hK => ?_) AllReady.nil
      refine step_store (by rfl) 37 _ _ (by rfl) g (k * 8) y.cells (by rfl) (by rfl) (own_there HO.out hjl) info24 (cells_all y) ?_
      refine hK _ _ ?_
      clear hK K
      (try simp only [Act.put]); try simp only [z2, List.set]
      refine tA (v := ?_) 16 opAt16 ?_ ?_
      case refine_2 => (intro w; go_simp; all_goals (with_reducible rfl))
      (try simp only [Act.put]); try simp only [z2, List.set]
      generalize hW2 : World.setCells _ g (k * 8) y.cells = W2
      have HOb : Hid (W2.ownsRow base 37 8 (.slice (some ⟨g, 0, none⟩) n cap) n (cellsS (L1.set k y))) := Lib.hid (by rw [← hW2]; exact HO2.out)
      have FOb : Hid ((W2.setCells g (q * 8) x.cells).ownsRow base 37 8 (.slice (some ⟨g, 0, none⟩) n cap) n (cellsS (swapL L1 k q))) := Lib.hid (by rw [← hW2]; exact FO.out)
      have KFb : Hid (Kept (fun k => k = g) w (W2.setCells g (q * 8) x.cells)) := Lib.hid (by rw [← hW2]; exact KF6.out)
      clear hW2
      refine wpAny_last (i := 17) (o := ?o2) ?hr2 ?ho2 ?hn2 ?h2
      case ho2 => exact opAt17
      case hr2 => kernel_rfl
      case hn2 => kernel_rfl
      intro K hK
      refine step_store (by rfl) 37 _ _ (by rfl) g (q * 8) x.cells (by rfl) (by rfl) (own_there HOb.out (by simpa using hql)) info24 (cells_all x) ?_
      refine hK.out _ _ ?_
      clear hK K
      (try simp only [Act.put]); try simp only [z2, List.set]
      generalize hW3 : World.setCells W2 g (q * 8) x.cells = W3
      have FOc : Hid (W3.ownsRow base 37 8 (.slice (some ⟨g, 0, none⟩) n cap) n (cellsS (swapL L1 k q))) := Lib.hid (by rw [← hW3]; exact FOb.out)
      have KFc : Hid (Kept (fun k => k = g) w W3) := Lib.hid (by rw [← hW3]; exact KFb.out)
      clear hW3
      go_wp2
      go_roundg (e0 - q)
      case measure => have := HQ.out; have := HGk.out; omega
      case rel =>
       have hq := HQ.out
       have sn := nth_swap L1 hjl hql
       refine ⟨q, swapL L1 k q, by omega, by omega, by go_num, by simpa using hl1, FOc.out, ?_, ?_, ?_, ?_, KFc.out⟩
       ·rw [sn, if_pos rfl]; exact P1.out
       ·intro t t1 t2
        rw [sn, if_neg (by omega)]
        by_cases c : t = k
        ·subst c; rw [if_pos rfl, hq]; exact P3.out _ (by omega)
        ·rw [if_neg c]; exact P2.out t t1 (by omega)
       ·intro t t1
        rw [sn, if_neg (by omega), if_neg (by omega)]; exact P3.out t (by omega)
       ·refine MV.out.trans ?_
        have h := moved_swap (L := L1) (a := a) (b := b) (k := k) (by omega) (by omega) (by omega) (by rw [HX1.out, ← hq, HY1.out]; have := HLT.out; omega)
        rw [← hq] at h; exact h
     ·have i5 : ¬ (k : Int) < (e0 : Int) := by omega
      have hk2 : k = e0 := by have := HGk.out; omega
      have hso : SortedOn L1 a b := by
       have he := EI.out
       have hma := MA.out
       refine up_sorted (L := L) (i := i) (x := x) (by omega) (by omega) (hma ▸ S2.out) (fun k h1 h2 => LO.out k (by omega) h2) (fun k h1 h2 => HI.out k (by have := IJ.out; omega) h2) ?_ ?_ ?_
       ·rw [show i - 1 = k by omega]; exact P1.out
       ·intro t t1 t2; exact P2.out t t1 (by omega)
       ·intro t t1; exact P3.out t (by omega)
      have SO := Lib.hid hso
      clear hk2 hso
      go_wp2
      refine bodyPost_ret (v := _) (by simp [results, Try.results93, go_sem]; try rfl) rfl ?_
      exact ⟨rfl, L1, HO1.out, MV.out, SO.out, K1.out⟩
 ·obtain ⟨d, hd⟩ : ∃ d, m - a = d := ⟨_, rfl⟩
  have e1 : IntKind.i64.wrap ((m : Int) - (a : Int)) = (d : Int) := by rw [show (m : Int) - (a : Int) = (d : Int) by omega]; exact IntWalk.i64_in _ (by omega)
  have hd1 : ¬ (d : Int) = 1 := by omega
  have hd2 : ((d : Int) == 1) = false := by simp; omega
  clear hd
  by_cases hB : b = m + 1
  ·have e2 : IntKind.i64.wrap ((b : Int) - (m : Int)) = 1 := by rw [show (b : Int) - (m : Int) = 1 by omega]; exact IntWalk.i64_in _ (by omega)
   have MB := Lib.hid hB
   clear hB
   obtain ⟨x, hx⟩ : ∃ x, nth L m = x := ⟨_, rfl⟩
   have gx := nth_get (l := L) (k := m) (by omega)
   rw [hx] at gx
   have HX := Lib.hid hx; have GX := Lib.hid gx
   clear hx gx
   go_enter Try.func93, Try.ntmps93
   go_wp2
   clear e1 e2
   go_loopg [14, 15] (m - a) (fun gh s t wr => ∃ (i j : Nat), i + gh = j ∧ a ≤ i ∧ j ≤ m ∧ s = .int .i64 i ∧ t = .int .i64 j ∧ (∀ k, a ≤ k → k < i → (nth L k).id ≤ x.id) ∧ (∀ k, j ≤ k → k < m → x.id < (nth L k).id) ∧ Kept (fun _ => False) w wr)
   case atStart => exact ⟨a, m, by omega, Nat.le_refl _, Nat.le_refl _, rfl, rfl, fun k h1 h2 => by omega, fun k h1 h2 => by omega, Kept.refl _ _⟩
   case round =>
    obtain ⟨i, j, hg, hai, hjm, rfl, rfl, lo, hi, kw⟩ := hrel
    have HG := Lib.hid hg; have LO := Lib.hid lo; have HI := Lib.hid hi; have KW := Lib.hid kw
    have HO1 := Lib.hid (own_keptS HO0.out kw (fun _ _ f => f))
    have hb0 := kw.cell HK0.out (fun f => f)
    clear hg lo hi kw
    by_cases hij : i < j
    ·have i0 : (i : Int) < (j : Int) := by omega
     obtain ⟨u, hu⟩ : ∃ u, i + j = u := ⟨_, rfl⟩
     have e2 : IntKind.i64.wrap ((i : Int) + (j : Int)) = (u : Int) := by rw [show (i : Int) + (j : Int) = (u : Int) by omega]; exact IntWalk.i64_in _ (by omega)
     obtain ⟨h, hh⟩ : ∃ h, u / 2 = h := ⟨_, rfl⟩
     have hul : u ≤ 2000 := by omega
     have e3 : (u : Int) / 2 = (h : Int) := by omega
     have hb1 : i ≤ h := by omega
     have hb2 : h < j := by omega
     clear hu hh
     obtain ⟨y, hy⟩ : ∃ y, nth L h = y := ⟨_, rfl⟩
     have gy := nth_get (l := L) (k := h) (by omega)
     rw [hy] at gy
     have HY := Lib.hid hy
     have ry := own_range HO1.out gy
     have rx := own_range HO1.out GX.out
     have i1 : (0 : Int) ≤ (h : Int) := by omega
     have i2 : (h : Int) < (n : Int) := by omega
     have i3 : (0 : Int) ≤ (m : Int) := by omega
     have i4 : (m : Int) < (n : Int) := by omega
     clear hy gy
     by_cases hlt : x.id < y.id
     ·have ec : cmpI x.id y.id < 0 := by unfold cmpI; rw [if_pos hlt]; omega
      have ed : decide (cmpI x.id y.id < 0) = true := by simp [ec]
      go_wp2
      refine wp_region_held_drew (S := (fun w' => w'.cell? ⟨bk, 0, none⟩ = some (.func (.func 73) #[] #[]) ∧ w'.rangeAt g (m * 8) x.cells ∧ w'.rangeAt g (h * 8) y.cells)) (by kernel_rfl) ?_ (fun hHeld => ?_)
      ·exact ⟨hb0, rx, ry⟩
      refine tW 0 opAt0 hHeld ?_
      (try simp only [Act.put]); try simp only [z2, List.set]
      refine tW 1 opAt1 hHeld ?_
      (try simp only [Act.put]); try simp only [z2, List.set]
      refine tW 2 opAt2 hHeld ?_
      (try simp only [Act.put]); try simp only [z2, List.set]
      refine tW 3 opAt3 hHeld ?_
      (try simp only [Act.put]); try simp only [z2, List.set]
      refine wpAnyH_take (i := 4) (v := .agg x.cells.toArray) opAt4 (by kernel_rfl) (by kernel_rfl) (by kernel_rfl) (fun _ _ _ h => h) (yieldsIf_load_mid (by rfl) 37 _ (by rfl) g (m * 8) (by rfl) x.cells _ (fun w hS => hS.2.1) Try.underlying37 rfl info24) hHeld ?_
      (try simp only [Act.put]); try simp only [z2, List.set]
      refine tW 5 opAt5 hHeld ?_
      (try simp only [Act.put]); try simp only [z2, List.set]
      refine tW 6 opAt6 hHeld ?_
      (try simp only [Act.put]); try simp only [z2, List.set]
      refine tW 7 opAt7 hHeld ?_
      (try simp only [Act.put]); try simp only [z2, List.set]
      refine wpAnyH_take (i := 8) (v := .agg y.cells.toArray) opAt8 (by kernel_rfl) (by kernel_rfl) (by kernel_rfl) (fun _ _ _ h => h) (yieldsIf_load_mid (by rfl) 37 _ (by rfl) g (h * 8) (by rfl) y.cells _ (fun w hS => hS.2.2) Try.underlying37 rfl info24) hHeld ?_
      (try simp only [Act.put]); try simp only [z2, List.set]
      refine wpAnyH_ready (rs := [9]) (by kernel_rfl) (by simp) ?_
      refine AllReadyH.cons opAt9 (fun K hK => ?_) AllReadyH.nil
      go_simp
      go_at_call 86; refine (cmp_call x y bk _ hHeld.1).mono ?_; rintro e w5 ⟨rfl, k5⟩; have K5 := Lib.hid k5; dsimp only
      refine hK.out _ _ ?_ (fun hHeld => ?_)
      ·exact ⟨k5.cell hHeld.1 (fun f => f), fun k v hv => k5.cell (hHeld.2.1 k v hv) (fun f => f), fun k v hv => k5.cell (hHeld.2.2 k v hv) (fun f => f)⟩
      clear hK K
      (try simp only [Act.put]); try simp only [z2, List.set]
      refine tW 10 opAt10 hHeld ?_
      (try simp only [Act.put]); try simp only [z2, List.set]
      refine tW 11 opAt11 hHeld ?_
      (try simp only [Act.put]); try simp only [z2, List.set]
      refine wpAnyH_done (by kernel_rfl) ?_ _
      go_wp2
      go_roundg (h - i)
      case measure => have := HG.out; omega
      case rel => exact ⟨i, h, by omega, hai, by omega, rfl, rfl, LO.out, fun k k1 k2 => by have := S1.out h k (by omega) k1 k2; rw [HY.out] at this; omega, KW.out.drew.trans K5.out (fun _ _ f => f) (fun _ _ f => f)⟩
     ·have ec : ¬ cmpI x.id y.id < 0 := by unfold cmpI; rw [if_neg hlt]; split <;> omega
      have ed : decide (cmpI x.id y.id < 0) = false := by simp; omega
      go_wp2
      refine wp_region_held_drew (S := (fun w' => w'.cell? ⟨bk, 0, none⟩ = some (.func (.func 73) #[] #[]) ∧ w'.rangeAt g (m * 8) x.cells ∧ w'.rangeAt g (h * 8) y.cells)) (by kernel_rfl) ?_ (fun hHeld => ?_)
      ·exact ⟨hb0, rx, ry⟩
      refine tW 0 opAt0 hHeld ?_
      (try simp only [Act.put]); try simp only [z2, List.set]
      refine tW 1 opAt1 hHeld ?_
      (try simp only [Act.put]); try simp only [z2, List.set]
      refine tW 2 opAt2 hHeld ?_
      (try simp only [Act.put]); try simp only [z2, List.set]
      refine tW 3 opAt3 hHeld ?_
      (try simp only [Act.put]); try simp only [z2, List.set]
      refine wpAnyH_take (i := 4) (v := .agg x.cells.toArray) opAt4 (by kernel_rfl) (by kernel_rfl) (by kernel_rfl) (fun _ _ _ h => h) (yieldsIf_load_mid (by rfl) 37 _ (by rfl) g (m * 8) (by rfl) x.cells _ (fun w hS => hS.2.1) Try.underlying37 rfl info24) hHeld ?_
      (try simp only [Act.put]); try simp only [z2, List.set]
      refine tW 5 opAt5 hHeld ?_
      (try simp only [Act.put]); try simp only [z2, List.set]
      refine tW 6 opAt6 hHeld ?_
      (try simp only [Act.put]); try simp only [z2, List.set]
      refine tW 7 opAt7 hHeld ?_
      (try simp only [Act.put]); try simp only [z2, List.set]
      refine wpAnyH_take (i := 8) (v := .agg y.cells.toArray) opAt8 (by kernel_rfl) (by kernel_rfl) (by kernel_rfl) (fun _ _ _ h => h) (yieldsIf_load_mid (by rfl) 37 _ (by rfl) g (h * 8) (by rfl) y.cells _ (fun w hS => hS.2.2) Try.underlying37 rfl info24) hHeld ?_
      (try simp only [Act.put]); try simp only [z2, List.set]
      refine wpAnyH_ready (rs := [9]) (by kernel_rfl) (by simp) ?_
      refine AllReadyH.cons opAt9 (fun K hK => ?_) AllReadyH.nil
      go_simp
      go_at_call 86; refine (cmp_call x y bk _ hHeld.1).mono ?_; rintro e w5 ⟨rfl, k5⟩; have K5 := Lib.hid k5; dsimp only
      refine hK.out _ _ ?_ (fun hHeld => ?_)
      ·exact ⟨k5.cell hHeld.1 (fun f => f), fun k v hv => k5.cell (hHeld.2.1 k v hv) (fun f => f), fun k v hv => k5.cell (hHeld.2.2 k v hv) (fun f => f)⟩
      clear hK K
      (try simp only [Act.put]); try simp only [z2, List.set]
      refine tW 10 opAt10 hHeld ?_
      (try simp only [Act.put]); try simp only [z2, List.set]
      refine tW 11 opAt11 hHeld ?_
      (try simp only [Act.put]); try simp only [z2, List.set]
      refine wpAnyH_done (by kernel_rfl) ?_ _
      go_wp2
      go_roundg (j - (h + 1))
      case measure => have := HG.out; omega
      case rel => exact ⟨h + 1, j, by omega, by omega, hjm, by go_num, rfl, fun k k1 k2 => by have := S1.out k h k1 (by omega) (by omega); rw [HY.out] at this; omega, HI.out, KW.out.drew.trans K5.out (fun _ _ f => f) (fun _ _ f => f)⟩
    ·have i0 : ¬ (i : Int) < (j : Int) := by omega
     have hij2 : i = j := by have := HG.out; omega
     have IJ := Lib.hid hij2
     have him : i ≤ m := by omega
     clear hij2
     go_wp2
     go_loopg [17] (m - i) (fun gh t wr => ∃ (k : Nat) (L1 : List Spn), i + gh = k ∧ k ≤ m ∧ t = .int .i64 k ∧ L1.length = n ∧ wr.ownsRow base 37 8 (.slice (some ⟨g, 0, none⟩) n cap) n (cellsS L1) ∧ nth L1 k = x ∧ (∀ t, k < t → t ≤ m → nth L1 t = nth L (t - 1)) ∧ (∀ t, t < k ∨ m < t → nth L1 t = nth L t) ∧ Moved a b L L1 ∧ Kept (fun k => k = g) w wr)
     case atStart => exact ⟨m, L, by omega, Nat.le_refl _, rfl, hl, HO1.out, HX.out, fun t h1 h2 => by omega, fun t h => rfl, Moved.refl _ _ _, KW.out.mono (fun _ _ f => f.elim)⟩
     case round =>
      obtain ⟨k, L1, hg, hkm, rfl, hl1, ho1, p1, p2, p3, mv, k1⟩ := hrel
      have HGk := Lib.hid hg; have HO1 := Lib.hid ho1; have P1 := Lib.hid p1; have P2 := Lib.hid p2; have P3 := Lib.hid p3; have MV := Lib.hid mv; have K1 := Lib.hid k1
      clear hg ho1 p1 p2 p3 mv k1
      by_cases hke : i < k
      ·have i5 : (i : Int) < (k : Int) := by omega
       obtain ⟨q, hq⟩ : ∃ q, k = q + 1 := ⟨k - 1, by omega⟩
       have e5 : IntKind.i64.wrap ((k : Int) - 1) = (q : Int) := by rw [show (k : Int) - 1 = (q : Int) by omega]; exact IntWalk.i64_in _ (by omega)
       have hjl : k < L1.length := by omega
       have hql : q < L1.length := by omega
       obtain ⟨y, hy⟩ : ∃ y, nth L1 q = y := ⟨_, rfl⟩
       have gx := nth_get hjl; have gy := nth_get hql
       rw [P1.out] at gx; rw [hy] at gy
       have HLT := Lib.hid (show x.id < y.id by rw [← hy, P3.out q (by omega)]; exact HI.out q (by have := IJ.out; omega) (by omega))
       have GX := Lib.hid gx; have GY := Lib.hid gy; have HX := Lib.hid P1.out; have HY := Lib.hid hy; have HX1 := Lib.hid P1.out; have HY1 := Lib.hid hy
       have HQ := Lib.hid hq
       have i6 : (0 : Int) ≤ (k : Int) := by omega
       have i7 : (k : Int) < (n : Int) := by omega
       have i8 : (0 : Int) ≤ (q : Int) := by omega
       have i9 : (q : Int) < (n : Int) := by omega
       have hiq : i ≤ q := by omega
       clear gx gy hy hq
       have HO := Lib.hid ((HO1.out).drew)
       have rx := own_range HO.out GX.out
       have ry := own_range HO.out GY.out
       have HO2 := Lib.hid (own_set HO.out y hjl)
       have FO := Lib.hid (show ((wr.drew.setCells g (k * 8) y.cells).setCells g (q * 8) x.cells).ownsRow base 37 8 (.slice (some ⟨g, 0, none⟩) n cap) n (cellsS (swapL L1 k q)) from by
        have h := own_set HO2.out x (i := q) (by simpa using hql)
        unfold swapL
        rw [HX.out, HY.out]
        exact h)
       have KF6 := Lib.hid (Kept.setCells (S := fun k => k = g) (fun _ => rfl) x.cells (q * 8) (Kept.setCells (S := fun k => k = g) (fun _ => rfl) y.cells (k * 8) ((K1.out).drew)))
       go_wp2
       refine wp_region_any (by kernel_rfl) ?_
       simp only [List.size_toArray, List.length_cons, List.length_nil, Nat.zero_add, Nat.reduceAdd]
       refine tA (v := ?_) 0 opAt0 ?_ ?_
       case refine_2 => (intro w; go_simp; all_goals (with_reducible rfl))
       (try simp only [Act.put]); try simp only [z2, List.set]
       refine tA (v := ?_) 1 opAt1 ?_ ?_
       case refine_2 => (intro w; go_simp; all_goals (with_reducible rfl))
       (try simp only [Act.put]); try simp only [z2, List.set]
       refine tA (v := ?_) 2 opAt2 ?_ ?_
       case refine_2 => (intro w; go_simp; all_goals (with_reducible rfl))
       (try simp only [Act.put]); try simp only [z2, List.set]
       refine tA (v := ?_) 3 opAt3 ?_ ?_
       case refine_2 => (intro w; go_simp; all_goals (with_reducible rfl))
       (try simp only [Act.put]); try simp only [z2, List.set]
       refine tA (v := ?_) 4 opAt4 ?_ ?_
       case refine_2 => (intro w; go_simp; all_goals (with_reducible rfl))
       (try simp only [Act.put]); try simp only [z2, List.set]
       refine tA (v := ?_) 5 opAt5 ?_ ?_
       case refine_2 => (intro w; go_simp; all_goals (with_reducible rfl))
       (try simp only [Act.put]); try simp only [z2, List.set]
       refine tA (v := ?_) 6 opAt6 ?_ ?_
       case refine_2 => (intro w; go_simp; all_goals (with_reducible rfl))
       (try simp only [Act.put]); try simp only [z2, List.set]
       refine tA (v := ?_) 7 opAt7 ?_ ?_
       case refine_2 => (intro w; go_simp; all_goals (with_reducible rfl))
       (try simp only [Act.put]); try simp only [z2, List.set]
       refine tA (v := ?_) 8 opAt8 ?_ ?_
       case refine_2 => (intro w; go_simp; all_goals (with_reducible rfl))
       (try simp only [Act.put]); try simp only [z2, List.set]
       refine tA (v := ?_) 10 opAt10 ?_ ?_
       case refine_2 => (intro w; go_simp; all_goals (with_reducible rfl))
       (try simp only [Act.put]); try simp only [z2, List.set]
       refine tA (v := ?_) 11 opAt11 ?_ ?_
       case refine_2 => (intro w; go_simp; all_goals (with_reducible rfl))
       (try simp only [Act.put]); try simp only [z2, List.set]
       refine tA (v := ?_) 12 opAt12 ?_ ?_
       case refine_2 => (intro w; go_simp; all_goals (with_reducible rfl))
       (try simp only [Act.put]); try simp only [z2, List.set]
       refine wpAny_ready (rs := [9, 13]) (by kernel_rfl) (by simp) ?_
       refine AllReady.cons opAt9 (fun K hK => ?_) ?_
       ·refine step_load (by rfl) 37 _ (by rfl) g (q * 8) (by rfl) y.cells _ ry Try.underlying37 rfl info24 ?_
        refine hK _ _ ?_
        clear hK K
        (try simp only [Act.put]); try simp only [z2, List.set]
        refine wpAny_ready (rs := [13]) (by kernel_rfl) (by simp) ?_
        refine AllReady.cons opAt13 (fun K hK => ?_) AllReady.nil
        refine step_load (by rfl) 37 _ (by rfl) g (k * 8) (by rfl) x.cells _ rx Try.underlying37 rfl info24 ?_
        refine hK _ _ ?_
        clear hK K
        (try simp only [Act.put]); try simp only [z2, List.set]
        refine tA (v := ?_) 14 opAt14 ?_ ?_
        case refine_2 => (intro w; go_simp; all_goals (with_reducible rfl))
        (try simp only [Act.put]); try simp only [z2, List.set]
        refine wpAny_ready (rs := [15]) (by kernel_rfl) (by simp) ?_
        refine AllReady.cons opAt15 (fun K hK => ?_) AllReady.nil
        refine step_store (by rfl) 37 _ _ (by rfl) g (k * 8) y.cells (by rfl) (by rfl) (own_there HO.out hjl) info24 (cells_all y) ?_
        refine hK _ _ ?_
        clear hK K
        (try simp only [Act.put]); try simp only [z2, List.set]
        refine tA (v := ?_) 16 opAt16 ?_ ?_
        case refine_2 => (intro w; go_simp; all_goals (with_reducible rfl))
        (try simp only [Act.put]); try simp only [z2, List.set]
        generalize hW2 : World.setCells _ g (k * 8) y.cells = W2
        have HOb : Hid (W2.ownsRow base 37 8 (.slice (some ⟨g, 0, none⟩) n cap) n (cellsS (L1.set k y))) := Lib.hid (by rw [← hW2]; exact HO2.out)
        have FOb : Hid ((W2.setCells g (q * 8) x.cells).ownsRow base 37 8 (.slice (some ⟨g, 0, none⟩) n cap) n (cellsS (swapL L1 k q))) := Lib.hid (by rw [← hW2]; exact FO.out)
        have KFb : Hid (Kept (fun k => k = g) w (W2.setCells g (q * 8) x.cells)) := Lib.hid (by rw [← hW2]; exact KF6.out)
        clear hW2
        refine wpAny_last (i := 17) (o := ?o3) ?hr3 ?ho3 ?hn3 ?h3
        case ho3 => exact opAt17
        case hr3 => kernel_rfl
        case hn3 => kernel_rfl
        intro K hK
        refine step_store (by rfl) 37 _ _ (by rfl) g (q * 8) x.cells (by rfl) (by rfl) (own_there HOb.out (by simpa using hql)) info24 (cells_all x) ?_
        refine hK.out _ _ ?_
        clear hK K
        (try simp only [Act.put]); try simp only [z2, List.set]
        generalize hW3 : World.setCells W2 g (q * 8) x.cells = W3
        have FOc : Hid (W3.ownsRow base 37 8 (.slice (some ⟨g, 0, none⟩) n cap) n (cellsS (swapL L1 k q))) := Lib.hid (by rw [← hW3]; exact FOb.out)
        have KFc : Hid (Kept (fun k => k = g) w W3) := Lib.hid (by rw [← hW3]; exact KFb.out)
        clear hW3
        go_wp2
        go_roundg (q - i)
        case measure => have := HQ.out; have := HGk.out; omega
        case rel =>
         have hq := HQ.out
         have sn := nth_swap L1 hjl hql
         refine ⟨q, swapL L1 k q, by omega, by omega, by go_num, by simpa using hl1, FOc.out, ?_, ?_, ?_, ?_, KFc.out⟩
         ·rw [sn, if_pos rfl]; exact P1.out
         ·intro t t1 t2
          rw [sn, if_neg (by omega)]
          by_cases c : t = k
          ·subst c; rw [if_pos rfl, show t - 1 = q by omega]; exact P3.out _ (by omega)
          ·rw [if_neg c]; exact P2.out t (by omega) t2
         ·intro t t1
          rw [sn, if_neg (by omega), if_neg (by omega)]; exact P3.out t (by omega)
         ·refine MV.out.trans ?_
          rw [swap_comm]
          have h := moved_swap (L := L1) (a := a) (b := b) (k := q) (by omega) (by omega) (by omega) (by rw [← hq, HX1.out, HY1.out]; have := HLT.out; omega)
          rw [← hq] at h; exact h
       refine AllReady.cons opAt13 (fun K hK => ?_) AllReady.nil
       refine step_load (by rfl) 37 _ (by rfl) g (k * 8) (by rfl) x.cells _ rx Try.underlying37 rfl info24 ?_
       refine hK _ _ ?_
       clear hK K
       (try simp only [Act.put]); try simp only [z2, List.set]
       refine wpAny_ready (rs := [9]) (by kernel_rfl) (by simp) ?_
       refine AllReady.cons opAt9 (fun K hK => ?_) AllReady.nil
       refine step_load (by rfl) 37 _ (by rfl) g (q * 8) (by rfl) y.cells _ ry Try.underlying37 rfl info24 ?_
       refine hK _ _ ?_
       clear hK K
       (try simp only [Act.put]); try simp only [z2, List.set]
       refine tA (v := ?_) 14 opAt14 ?_ ?_
       case refine_2 => (intro w; go_simp; all_goals (with_reducible rfl))
       (try simp only [Act.put]); try simp only [z2, List.set]
       refine wpAny_ready (rs := [15]) (by kernel_rfl) (by simp) ?_
       refine AllReady.cons opAt15 (fun K hK => ?_) AllReady.nil
       refine step_store (by rfl) 37 _ _ (by rfl) g (k * 8) y.cells (by rfl) (by rfl) (own_there HO.out hjl) info24 (cells_all y) ?_
       refine hK _ _ ?_
       clear hK K
       (try simp only [Act.put]); try simp only [z2, List.set]
       refine tA (v := ?_) 16 opAt16 ?_ ?_
       case refine_2 => (intro w; go_simp; all_goals (with_reducible rfl))
       (try simp only [Act.put]); try simp only [z2, List.set]
       generalize hW2 : World.setCells _ g (k * 8) y.cells = W2
       have HOb : Hid (W2.ownsRow base 37 8 (.slice (some ⟨g, 0, none⟩) n cap) n (cellsS (L1.set k y))) := Lib.hid (by rw [← hW2]; exact HO2.out)
       have FOb : Hid ((W2.setCells g (q * 8) x.cells).ownsRow base 37 8 (.slice (some ⟨g, 0, none⟩) n cap) n (cellsS (swapL L1 k q))) := Lib.hid (by rw [← hW2]; exact FO.out)
       have KFb : Hid (Kept (fun k => k = g) w (W2.setCells g (q * 8) x.cells)) := Lib.hid (by rw [← hW2]; exact KF6.out)
       clear hW2
       refine wpAny_last (i := 17) (o := ?o4) ?hr4 ?ho4 ?hn4 ?h4
       case ho4 => exact opAt17
       case hr4 => kernel_rfl
       case hn4 => kernel_rfl
       intro K hK
       refine step_store (by rfl) 37 _ _ (by rfl) g (q * 8) x.cells (by rfl) (by rfl) (own_there HOb.out (by simpa using hql)) info24 (cells_all x) ?_
       refine hK.out _ _ ?_
       clear hK K
       (try simp only [Act.put]); try simp only [z2, List.set]
       generalize hW3 : World.setCells W2 g (q * 8) x.cells = W3
       have FOc : Hid (W3.ownsRow base 37 8 (.slice (some ⟨g, 0, none⟩) n cap) n (cellsS (swapL L1 k q))) := Lib.hid (by rw [← hW3]; exact FOb.out)
       have KFc : Hid (Kept (fun k => k = g) w W3) := Lib.hid (by rw [← hW3]; exact KFb.out)
       clear hW3
       go_wp2
       go_roundg (q - i)
       case measure => have := HQ.out; have := HGk.out; omega
       case rel =>
        have hq := HQ.out
        have sn := nth_swap L1 hjl hql
        refine ⟨q, swapL L1 k q, by omega, by omega, by go_num, by simpa using hl1, FOc.out, ?_, ?_, ?_, ?_, KFc.out⟩
        ·rw [sn, if_pos rfl]; exact P1.out
        ·intro t t1 t2
         rw [sn, if_neg (by omega)]
         by_cases c : t = k
         ·subst c; rw [if_pos rfl, show t - 1 = q by omega]; exact P3.out _ (by omega)
         ·rw [if_neg c]; exact P2.out t (by omega) t2
        ·intro t t1
         rw [sn, if_neg (by omega), if_neg (by omega)]; exact P3.out t (by omega)
        ·refine MV.out.trans ?_
         rw [swap_comm]
         have h := moved_swap (L := L1) (a := a) (b := b) (k := q) (by omega) (by omega) (by omega) (by rw [← hq, HX1.out, HY1.out]; have := HLT.out; omega)
         rw [← hq] at h; exact h
      ·have i5 : ¬ (i : Int) < (k : Int) := by omega
       have hk2 : k = i := by have := HGk.out; omega
       have hso : SortedOn L1 a b := by
        have hmb2 := MB.out
        have h0 := down_sorted (L := L) (L1 := L1) (a := a) (m := m) (i := i) (y := x) hai him S1.out LO.out (fun k h1 h2 => HI.out k (by have := IJ.out; omega) h2) (hk2 ▸ P1.out) (fun t t1 t2 => P2.out t (by omega) t2) (fun t t1 => P3.out t (by omega))
        rw [hmb2]; exact h0
       have SO := Lib.hid hso
       clear hk2 hso
       go_wp2
       refine bodyPost_ret (v := _) (by simp [results, Try.results93, go_sem]; try rfl) rfl ?_
       exact ⟨rfl, L1, HO1.out, MV.out, SO.out, K1.out⟩
  ·obtain ⟨d2, hd2'⟩ : ∃ d, b - m = d := ⟨_, rfl⟩
   have e2 : IntKind.i64.wrap ((b : Int) - (m : Int)) = (d2 : Int) := by rw [show (b : Int) - (m : Int) = (d2 : Int) by omega]; exact IntWalk.i64_in _ (by omega)
   have hd3 : ¬ (d2 : Int) = 1 := by omega
   have hd4 : ((d2 : Int) == 1) = false := by simp; omega
   obtain ⟨u0, hu0⟩ : ∃ u, a + b = u := ⟨_, rfl⟩
   obtain ⟨mid, hmid⟩ : ∃ q, u0 / 2 = q := ⟨_, rfl⟩
   obtain ⟨nn, hnn⟩ : ∃ q, mid + m = q := ⟨_, rfl⟩
   obtain ⟨pp, hpp⟩ : ∃ q, nn - 1 = q := ⟨_, rfl⟩
   have g1 : IntKind.i64.wrap ((a : Int) + (b : Int)) = (u0 : Int) := by rw [show (a : Int) + (b : Int) = (u0 : Int) by omega]; exact IntWalk.i64_in _ (by omega)
   have g2 : (u0 : Int) / 2 = (mid : Int) := by omega
   have g3 : IntKind.i64.wrap ((mid : Int) + (m : Int)) = (nn : Int) := by rw [show (mid : Int) + (m : Int) = (nn : Int) by omega]; exact IntWalk.i64_in _ (by omega)
   have g4 : IntKind.i64.wrap ((nn : Int) - 1) = (pp : Int) := by rw [show (nn : Int) - 1 = (pp : Int) by omega]; exact IntWalk.i64_in _ (by omega)
   have hu2 : u0 ≤ 2000 := by omega
   have hm1 : a < mid := by omega
   have hm2 : mid < b := by omega
   have PN := Lib.hid (show mid + m = nn ∧ nn = pp + 1 from by omega)
   by_cases hmm : mid < m
   ·obtain ⟨s0, hs0⟩ : ∃ q, nn - b = q := ⟨_, rfl⟩
    have g5 : IntKind.i64.wrap ((nn : Int) - (b : Int)) = (s0 : Int) := by rw [show (nn : Int) - (b : Int) = (s0 : Int) by omega]; exact IntWalk.i64_in _ (by omega)
    have g6 : (mid : Int) < (m : Int) := by omega
    have hs1 : a ≤ s0 := by omega
    have hs2 : s0 ≤ mid := by omega
    have IDX := Lib.hid (show ∀ c, s0 ≤ c → c < mid → m ≤ pp - c ∧ pp - c < b from fun c c1 c2 => by omega)
    have ALT := Lib.hid (show nn - s0 = b ∧ nn - mid = m ∧ s0 ≤ mid from by omega)
    clear hd2' hu0 hmid hnn hpp hs0
    go_enter Try.func93, Try.ntmps93
    go_wp2
    clear e1 e2 g1 g2 g3 g4 g5
    go_loopg [20, 21] (mid - s0) (fun gh s t wr => ∃ (st r : Nat), st + gh = r ∧ s0 ≤ st ∧ r ≤ mid ∧ s = .int .i64 st ∧ t = .int .i64 r ∧ (st = s0 ∨ (nth L (st - 1)).id ≤ (nth L (nn - st)).id) ∧ (r = mid ∨ (nth L (pp - r)).id < (nth L r).id) ∧ Kept (fun _ => False) w wr)
    case atStart => exact ⟨s0, mid, by omega, Nat.le_refl _, Nat.le_refl _, rfl, rfl, .inl rfl, .inl rfl, Kept.refl _ _⟩
    case round =>
     obtain ⟨st, r, hg, hst, hr, rfl, rfl, lo, hi, kw⟩ := hrel
     have HG := Lib.hid hg; have LO := Lib.hid lo; have HI := Lib.hid hi; have KW := Lib.hid kw
     have HO1 := Lib.hid (own_keptS HO0.out kw (fun _ _ f => f))
     have hb0 := kw.cell HK0.out (fun f => f)
     clear hg lo hi kw
     by_cases hij : st < r
     ·have i0 : (st : Int) < (r : Int) := by omega
      obtain ⟨u, hu⟩ : ∃ u, st + r = u := ⟨_, rfl⟩
      have f2 : IntKind.i64.wrap ((st : Int) + (r : Int)) = (u : Int) := by rw [show (st : Int) + (r : Int) = (u : Int) by omega]; exact IntWalk.i64_in _ (by omega)
      obtain ⟨c, hc⟩ : ∃ c, u / 2 = c := ⟨_, rfl⟩
      have hul : u ≤ 2000 := by omega
      have f3 : (u : Int) / 2 = (c : Int) := by omega
      have hb1 : st ≤ c := by omega
      have hb2 : c < r := by omega
      clear hu hc
      obtain ⟨pc, hpc⟩ : ∃ pc, pp - c = pc := ⟨_, rfl⟩
      have hx1 := IDX.out c (by omega) (by omega)
      rw [hpc] at hx1
      have hx2 := hx1.1; have hx3 := hx1.2
      have f4 : IntKind.i64.wrap ((pp : Int) - (c : Int)) = (pc : Int) := by rw [show (pp : Int) - (c : Int) = (pc : Int) by have := PN.out; omega]; exact IntWalk.i64_in _ (by omega)
      obtain ⟨x, hx⟩ : ∃ x, nth L pc = x := ⟨_, rfl⟩
      obtain ⟨y, hy⟩ : ∃ y, nth L c = y := ⟨_, rfl⟩
      have gx := nth_get (l := L) (k := pc) (by omega)
      have gy := nth_get (l := L) (k := c) (by omega)
      rw [hx] at gx; rw [hy] at gy
      have rx := own_range HO1.out gx
      have ry := own_range HO1.out gy
      have HX := Lib.hid hx; have HY := Lib.hid hy; have PC := Lib.hid hpc
      have i1 : (0 : Int) ≤ (c : Int) := by omega
      have i2 : (c : Int) < (n : Int) := by omega
      have i3 : (0 : Int) ≤ (pc : Int) := by omega
      have i4 : (pc : Int) < (n : Int) := by omega
      clear hx hy gx gy hpc hx1
      by_cases hlt : x.id < y.id
      ·have ec : cmpI x.id y.id < 0 := by unfold cmpI; rw [if_pos hlt]; omega
       have ed : decide (cmpI x.id y.id < 0) = true := by simp [ec]
       go_wp2
       refine wp_region_held_drew (S := (fun w' => w'.cell? ⟨bk, 0, none⟩ = some (.func (.func 73) #[] #[]) ∧ w'.rangeAt g (pc * 8) x.cells ∧ w'.rangeAt g (c * 8) y.cells)) (by kernel_rfl) ?_ (fun hHeld => ?_)
       ·exact ⟨hb0, rx, ry⟩
       refine tW 0 opAt0 hHeld ?_
       (try simp only [Act.put]); try simp only [z2, List.set]
       refine tW 1 opAt1 hHeld ?_
       (try simp only [Act.put]); try simp only [z2, List.set]
       refine tW 2 opAt2 hHeld ?_
       (try simp only [Act.put]); try simp only [z2, List.set]
       refine tW 3 opAt3 hHeld ?_
       (try simp only [Act.put]); try simp only [z2, List.set]
       refine tW 4 opAt4 hHeld ?_
       (try simp only [Act.put]); try simp only [z2, List.set]
       refine tW 5 opAt5 hHeld ?_
       (try simp only [Act.put]); try simp only [z2, List.set]
       refine wpAnyH_take (i := 6) (v := .agg x.cells.toArray) opAt6 (by kernel_rfl) (by kernel_rfl) (by kernel_rfl) (fun _ _ _ h => h) (yieldsIf_load_mid (by rfl) 37 _ (by rfl) g (pc * 8) (by rfl) x.cells _ (fun w hS => hS.2.1) Try.underlying37 rfl info24) hHeld ?_
       (try simp only [Act.put]); try simp only [z2, List.set]
       refine tW 7 opAt7 hHeld ?_
       (try simp only [Act.put]); try simp only [z2, List.set]
       refine tW 8 opAt8 hHeld ?_
       (try simp only [Act.put]); try simp only [z2, List.set]
       refine tW 9 opAt9 hHeld ?_
       (try simp only [Act.put]); try simp only [z2, List.set]
       refine wpAnyH_take (i := 10) (v := .agg y.cells.toArray) opAt10 (by kernel_rfl) (by kernel_rfl) (by kernel_rfl) (fun _ _ _ h => h) (yieldsIf_load_mid (by rfl) 37 _ (by rfl) g (c * 8) (by rfl) y.cells _ (fun w hS => hS.2.2) Try.underlying37 rfl info24) hHeld ?_
       (try simp only [Act.put]); try simp only [z2, List.set]
       refine wpAnyH_ready (rs := [11]) (by kernel_rfl) (by simp) ?_
       refine AllReadyH.cons opAt11 (fun K hK => ?_) AllReadyH.nil
       go_simp
       go_at_call 86; refine (cmp_call x y bk _ hHeld.1).mono ?_; rintro e w5 ⟨rfl, k5⟩; have K5 := Lib.hid k5; dsimp only
       refine hK.out _ _ ?_ (fun hHeld => ?_)
       ·exact ⟨k5.cell hHeld.1 (fun f => f), fun k v hv => k5.cell (hHeld.2.1 k v hv) (fun f => f), fun k v hv => k5.cell (hHeld.2.2 k v hv) (fun f => f)⟩
       clear hK K
       (try simp only [Act.put]); try simp only [z2, List.set]
       refine tW 12 opAt12 hHeld ?_
       (try simp only [Act.put]); try simp only [z2, List.set]
       refine tW 13 opAt13 hHeld ?_
       (try simp only [Act.put]); try simp only [z2, List.set]
       refine wpAnyH_done (by kernel_rfl) ?_ _
       go_wp2
       go_roundg (c - st)
       case measure => have := HG.out; omega
       case rel => exact ⟨st, c, by omega, hst, by omega, rfl, rfl, LO.out, .inr (by rw [PC.out, HX.out, HY.out]; exact hlt), KW.out.drew.trans K5.out (fun _ _ f => f) (fun _ _ f => f)⟩
      ·have ec : ¬ cmpI x.id y.id < 0 := by unfold cmpI; rw [if_neg hlt]; split <;> omega
       have ed : decide (cmpI x.id y.id < 0) = false := by simp; omega
       go_wp2
       refine wp_region_held_drew (S := (fun w' => w'.cell? ⟨bk, 0, none⟩ = some (.func (.func 73) #[] #[]) ∧ w'.rangeAt g (pc * 8) x.cells ∧ w'.rangeAt g (c * 8) y.cells)) (by kernel_rfl) ?_ (fun hHeld => ?_)
       ·exact ⟨hb0, rx, ry⟩
       refine tW 0 opAt0 hHeld ?_
       (try simp only [Act.put]); try simp only [z2, List.set]
       refine tW 1 opAt1 hHeld ?_
       (try simp only [Act.put]); try simp only [z2, List.set]
       refine tW 2 opAt2 hHeld ?_
       (try simp only [Act.put]); try simp only [z2, List.set]
       refine tW 3 opAt3 hHeld ?_
       (try simp only [Act.put]); try simp only [z2, List.set]
       refine tW 4 opAt4 hHeld ?_
       (try simp only [Act.put]); try simp only [z2, List.set]
       refine tW 5 opAt5 hHeld ?_
       (try simp only [Act.put]); try simp only [z2, List.set]
       refine wpAnyH_take (i := 6) (v := .agg x.cells.toArray) opAt6 (by kernel_rfl) (by kernel_rfl) (by kernel_rfl) (fun _ _ _ h => h) (yieldsIf_load_mid (by rfl) 37 _ (by rfl) g (pc * 8) (by rfl) x.cells _ (fun w hS => hS.2.1) Try.underlying37 rfl info24) hHeld ?_
       (try simp only [Act.put]); try simp only [z2, List.set]
       refine tW 7 opAt7 hHeld ?_
       (try simp only [Act.put]); try simp only [z2, List.set]
       refine tW 8 opAt8 hHeld ?_
       (try simp only [Act.put]); try simp only [z2, List.set]
       refine tW 9 opAt9 hHeld ?_
       (try simp only [Act.put]); try simp only [z2, List.set]
       refine wpAnyH_take (i := 10) (v := .agg y.cells.toArray) opAt10 (by kernel_rfl) (by kernel_rfl) (by kernel_rfl) (fun _ _ _ h => h) (yieldsIf_load_mid (by rfl) 37 _ (by rfl) g (c * 8) (by rfl) y.cells _ (fun w hS => hS.2.2) Try.underlying37 rfl info24) hHeld ?_
       (try simp only [Act.put]); try simp only [z2, List.set]
       refine wpAnyH_ready (rs := [11]) (by kernel_rfl) (by simp) ?_
       refine AllReadyH.cons opAt11 (fun K hK => ?_) AllReadyH.nil
       go_simp
       go_at_call 86; refine (cmp_call x y bk _ hHeld.1).mono ?_; rintro e w5 ⟨rfl, k5⟩; have K5 := Lib.hid k5; dsimp only
       refine hK.out _ _ ?_ (fun hHeld => ?_)
       ·exact ⟨k5.cell hHeld.1 (fun f => f), fun k v hv => k5.cell (hHeld.2.1 k v hv) (fun f => f), fun k v hv => k5.cell (hHeld.2.2 k v hv) (fun f => f)⟩
       clear hK K
       (try simp only [Act.put]); try simp only [z2, List.set]
       refine tW 12 opAt12 hHeld ?_
       (try simp only [Act.put]); try simp only [z2, List.set]
       refine tW 13 opAt13 hHeld ?_
       (try simp only [Act.put]); try simp only [z2, List.set]
       refine wpAnyH_done (by kernel_rfl) ?_ _
       go_wp2
       go_roundg (r - (c + 1))
       case measure => have := HG.out; omega
       case rel => exact ⟨c + 1, r, by omega, by omega, hr, by go_num, rfl, .inr (by rw [show c + 1 - 1 = c by omega, show nn - (c + 1) = pc by have := PC.out; have := PN.out; omega, HX.out, HY.out]; omega), HI.out, KW.out.drew.trans K5.out (fun _ _ f => f) (fun _ _ f => f)⟩
     ·have i0 : ¬ (st : Int) < (r : Int) := by omega
      have hsr : st = r := by have := HG.out; omega
      obtain ⟨e, he⟩ : ∃ e, nn - st = e := ⟨_, rfl⟩
      have hnn := PN.out
      have hal := ALT.out
      have f5 : IntKind.i64.wrap ((nn : Int) - (st : Int)) = (e : Int) := by rw [show (nn : Int) - (st : Int) = (e : Int) by omega]; exact IntWalk.i64_in _ (by omega)
      have q1 : a ≤ st := by omega
      have q2 : st ≤ m := by omega
      have q3 : st ≤ mid := by omega
      have q4 : e ≤ b := by omega
      have q5 : m ≤ e := by omega
      have q6 : mid ≤ e := by omega
      have hcf := cut_facts (L := L) (a := a) (m := m) (b := b) (start := st) (mid := mid) (e := e) S1.out S2.out (by omega) q1 q2 q3 ham (by omega) q4 (fun x y x1 x2 y1 y2 => by
       rcases LO.out with h | h
       ·omega
       ·have h1 := S1.out x (st - 1) x1 (by omega) (by omega)
        have h2 := S2.out (nn - st) y (by omega) (by omega) y2
        omega) (fun x y x1 x2 y1 y2 => by
       rcases HI.out with h | h
       ·omega
       ·have h1 := S1.out st x q1 x1 x2
        have h2 := S2.out y (pp - r) y1 (by omega) (by omega)
        rw [← hsr] at h h2
        omega)
      obtain ⟨C, hC⟩ : ∃ C, cutF L st m e = C := ⟨_, rfl⟩
      rw [hC] at hcf
      have HC := Lib.hid hC; have CM := Lib.hid hcf.1; have CF1 := Lib.hid hcf.2.1; have CF2 := Lib.hid hcf.2.2.1; have CF3 := Lib.hid hcf.2.2.2.1; have CF4 := Lib.hid hcf.2.2.2.2.1; have CF5 := Lib.hid hcf.2.2.2.2.2
      have CL := Lib.hid (hcf.1.len.trans hl)
      clear hcf hC hsr he hnn hal
      by_cases c1 : st < m
      ·have j1 : (st : Int) < (m : Int) := by omega
       by_cases c2 : m < e
       ·have j2 : (m : Int) < (e : Int) := by omega
        go_wp2_with fail
        refine (rotate_any _ st m e HO1.out hl c1 c2 (by omega) hn).mono ?_
        rintro r w6 ⟨rfl, o6, k6⟩
        have HL6 := Lib.hid (show w6.ownsRow base 37 8 (.slice (some ⟨g, 0, none⟩) n cap) n (cellsS C) from by rw [← HC.out, cutF, if_pos ⟨c1, c2⟩]; exact o6)
        have K6 := Lib.hid ((KW.out.mono (fun _ _ f => f.elim) : Kept (fun k => k = g) w wr).trans k6 (fun _ _ h => h) (fun _ _ h => h))
        clear o6 k6
        by_cases c3 : a < st
        ·have j3 : (a : Int) < (st : Int) := by omega
         by_cases c4 : st < mid
         ·have j4 : (st : Int) < (mid : Int) := by omega
          go_wp2_with fail
          refine (IH.out (mid - a) (by have := HS.out; omega) a st mid rfl HL6.out CL.out c3 c4 (by omega) hn (K6.out.cell HK0.out hne) hne CF1.out CF2.out).mono ?_
          rintro r w7 ⟨rfl, L7, o7, mv7, so7, k7⟩
          have O7 := Lib.hid o7; have M7 := Lib.hid mv7; have SO7 := Lib.hid so7
          have K7 := Lib.hid (K6.out.trans k7 (fun _ _ h => h) (fun _ _ h => h) : Kept (fun k => k = g) w w7)
          clear o7 mv7 so7 k7
          by_cases c5 : mid < e
          ·have j5 : (mid : Int) < (e : Int) := by omega
           by_cases c6 : e < b
           ·have j6 : (e : Int) < (b : Int) := by omega
            go_wp2_with fail
            refine (IH.out (b - mid) (by have := HS.out; omega) mid e b rfl O7.out (M7.out.len.trans CL.out) c5 c6 hbn hn (K7.out.cell HK0.out hne) hne (show SortedOn L7 mid e from fun i j a1 a2 a3 => by rw [M7.out.out i (Or.inr (by omega)), M7.out.out j (Or.inr (by omega))]; exact CF3.out i j (by omega) a2 (by omega)) (show SortedOn L7 e b from fun i j a1 a2 a3 => by rw [M7.out.out i (Or.inr (by omega)), M7.out.out j (Or.inr (by omega))]; exact CF4.out i j (by omega) a2 (by omega))).mono ?_
            rintro r w8 ⟨rfl, L8, o8, mv8, so8, k8⟩
            have O8 := Lib.hid o8; have M8 := Lib.hid mv8; have SO8 := Lib.hid so8
            have K8 := Lib.hid (K7.out.trans k8 (fun _ _ h => h) (fun _ _ h => h) : Kept (fun k => k = g) w w8)
            clear o8 mv8 so8 k8
            have J := join_sorted (A := C) (B := L7) (C := L8) (a := a) (mid := mid) (b := b) (by omega) (by omega) M7.out SO7.out M8.out SO8.out CF5.out
            have JJ := Lib.hid J
            clear J
            go_wp2
            go_end0
            exact ⟨rfl, L8, O8.out, CM.out.trans JJ.out.1, JJ.out.2, K8.out⟩
           ·have j6 : ¬ (e : Int) < (b : Int) := by omega
            have J := join_sorted (A := C) (B := L7) (C := L7) (a := a) (mid := mid) (b := b) (by omega) (by omega) M7.out SO7.out (Moved.refl mid b L7) (show SortedOn L7 mid b from fun i j a1 a2 a3 => by rw [M7.out.out i (Or.inr (by omega)), M7.out.out j (Or.inr (by omega))]; exact CF3.out i j (by omega) a2 (by omega)) CF5.out
            have JJ := Lib.hid J
            clear J
            go_wp2
            go_end0
            exact ⟨rfl, L7, O7.out, CM.out.trans JJ.out.1, JJ.out.2, K7.out⟩
          ·have j5 : ¬ (mid : Int) < (e : Int) := by omega
           have J := join_sorted (A := C) (B := L7) (C := L7) (a := a) (mid := mid) (b := b) (by omega) (by omega) M7.out SO7.out (Moved.refl mid b L7) (show SortedOn L7 mid b from fun i j a1 a2 a3 => by rw [M7.out.out i (Or.inr (by omega)), M7.out.out j (Or.inr (by omega))]; exact CF4.out i j (by omega) a2 (by omega)) CF5.out
           have JJ := Lib.hid J
           clear J
           go_wp2
           go_end0
           exact ⟨rfl, L7, O7.out, CM.out.trans JJ.out.1, JJ.out.2, K7.out⟩
         ·have j4 : ¬ (st : Int) < (mid : Int) := by omega
          have M7 := Lib.hid (Moved.refl a mid C)
          have SO7 := Lib.hid (show SortedOn C a mid from fun i j a1 a2 a3 => CF1.out i j a1 a2 (by omega))
          by_cases c5 : mid < e
          ·have j5 : (mid : Int) < (e : Int) := by omega
           by_cases c6 : e < b
           ·have j6 : (e : Int) < (b : Int) := by omega
            go_wp2_with fail
            refine (IH.out (b - mid) (by have := HS.out; omega) mid e b rfl HL6.out (M7.out.len.trans CL.out) c5 c6 hbn hn (K6.out.cell HK0.out hne) hne (show SortedOn C mid e from fun i j a1 a2 a3 => by rw [M7.out.out i (Or.inr (by omega)), M7.out.out j (Or.inr (by omega))]; exact CF3.out i j (by omega) a2 (by omega)) (show SortedOn C e b from fun i j a1 a2 a3 => by rw [M7.out.out i (Or.inr (by omega)), M7.out.out j (Or.inr (by omega))]; exact CF4.out i j (by omega) a2 (by omega))).mono ?_
            rintro r w8 ⟨rfl, L8, o8, mv8, so8, k8⟩
            have O8 := Lib.hid o8; have M8 := Lib.hid mv8; have SO8 := Lib.hid so8
            have K8 := Lib.hid (K6.out.trans k8 (fun _ _ h => h) (fun _ _ h => h) : Kept (fun k => k = g) w w8)
            clear o8 mv8 so8 k8
            have J := join_sorted (A := C) (B := C) (C := L8) (a := a) (mid := mid) (b := b) (by omega) (by omega) M7.out SO7.out M8.out SO8.out CF5.out
            have JJ := Lib.hid J
            clear J
            go_wp2
            go_end0
            exact ⟨rfl, L8, O8.out, CM.out.trans JJ.out.1, JJ.out.2, K8.out⟩
           ·have j6 : ¬ (e : Int) < (b : Int) := by omega
            have J := join_sorted (A := C) (B := C) (C := C) (a := a) (mid := mid) (b := b) (by omega) (by omega) M7.out SO7.out (Moved.refl mid b C) (show SortedOn C mid b from fun i j a1 a2 a3 => by rw [M7.out.out i (Or.inr (by omega)), M7.out.out j (Or.inr (by omega))]; exact CF3.out i j (by omega) a2 (by omega)) CF5.out
            have JJ := Lib.hid J
            clear J
            go_wp2
            go_end0
            exact ⟨rfl, C, HL6.out, CM.out.trans JJ.out.1, JJ.out.2, K6.out⟩
          ·have j5 : ¬ (mid : Int) < (e : Int) := by omega
           have J := join_sorted (A := C) (B := C) (C := C) (a := a) (mid := mid) (b := b) (by omega) (by omega) M7.out SO7.out (Moved.refl mid b C) (show SortedOn C mid b from fun i j a1 a2 a3 => by rw [M7.out.out i (Or.inr (by omega)), M7.out.out j (Or.inr (by omega))]; exact CF4.out i j (by omega) a2 (by omega)) CF5.out
           have JJ := Lib.hid J
           clear J
           go_wp2
           go_end0
           exact ⟨rfl, C, HL6.out, CM.out.trans JJ.out.1, JJ.out.2, K6.out⟩
        ·have j3 : ¬ (a : Int) < (st : Int) := by omega
         have M7 := Lib.hid (Moved.refl a mid C)
         have SO7 := Lib.hid (show SortedOn C a mid from fun i j a1 a2 a3 => CF2.out i j (by omega) a2 a3)
         by_cases c5 : mid < e
         ·have j5 : (mid : Int) < (e : Int) := by omega
          by_cases c6 : e < b
          ·have j6 : (e : Int) < (b : Int) := by omega
           go_wp2_with fail
           refine (IH.out (b - mid) (by have := HS.out; omega) mid e b rfl HL6.out (M7.out.len.trans CL.out) c5 c6 hbn hn (K6.out.cell HK0.out hne) hne (show SortedOn C mid e from fun i j a1 a2 a3 => by rw [M7.out.out i (Or.inr (by omega)), M7.out.out j (Or.inr (by omega))]; exact CF3.out i j (by omega) a2 (by omega)) (show SortedOn C e b from fun i j a1 a2 a3 => by rw [M7.out.out i (Or.inr (by omega)), M7.out.out j (Or.inr (by omega))]; exact CF4.out i j (by omega) a2 (by omega))).mono ?_
           rintro r w8 ⟨rfl, L8, o8, mv8, so8, k8⟩
           have O8 := Lib.hid o8; have M8 := Lib.hid mv8; have SO8 := Lib.hid so8
           have K8 := Lib.hid (K6.out.trans k8 (fun _ _ h => h) (fun _ _ h => h) : Kept (fun k => k = g) w w8)
           clear o8 mv8 so8 k8
           have J := join_sorted (A := C) (B := C) (C := L8) (a := a) (mid := mid) (b := b) (by omega) (by omega) M7.out SO7.out M8.out SO8.out CF5.out
           have JJ := Lib.hid J
           clear J
           go_wp2
           go_end0
           exact ⟨rfl, L8, O8.out, CM.out.trans JJ.out.1, JJ.out.2, K8.out⟩
          ·have j6 : ¬ (e : Int) < (b : Int) := by omega
           have J := join_sorted (A := C) (B := C) (C := C) (a := a) (mid := mid) (b := b) (by omega) (by omega) M7.out SO7.out (Moved.refl mid b C) (show SortedOn C mid b from fun i j a1 a2 a3 => by rw [M7.out.out i (Or.inr (by omega)), M7.out.out j (Or.inr (by omega))]; exact CF3.out i j (by omega) a2 (by omega)) CF5.out
           have JJ := Lib.hid J
           clear J
           go_wp2
           go_end0
           exact ⟨rfl, C, HL6.out, CM.out.trans JJ.out.1, JJ.out.2, K6.out⟩
         ·have j5 : ¬ (mid : Int) < (e : Int) := by omega
          have J := join_sorted (A := C) (B := C) (C := C) (a := a) (mid := mid) (b := b) (by omega) (by omega) M7.out SO7.out (Moved.refl mid b C) (show SortedOn C mid b from fun i j a1 a2 a3 => by rw [M7.out.out i (Or.inr (by omega)), M7.out.out j (Or.inr (by omega))]; exact CF4.out i j (by omega) a2 (by omega)) CF5.out
          have JJ := Lib.hid J
          clear J
          go_wp2
          go_end0
          exact ⟨rfl, C, HL6.out, CM.out.trans JJ.out.1, JJ.out.2, K6.out⟩
       ·have j2 : ¬ (m : Int) < (e : Int) := by omega
        have HL6 := Lib.hid (show wr.ownsRow base 37 8 (.slice (some ⟨g, 0, none⟩) n cap) n (cellsS C) from by rw [← HC.out, cutF, if_neg (by omega)]; exact HO1.out)
        have K6 := Lib.hid (KW.out.mono (fun _ _ f => f.elim) : Kept (fun k => k = g) w wr)
        by_cases c3 : a < st
        ·have j3 : (a : Int) < (st : Int) := by omega
         by_cases c4 : st < mid
         ·have j4 : (st : Int) < (mid : Int) := by omega
          go_wp2_with fail
          refine (IH.out (mid - a) (by have := HS.out; omega) a st mid rfl HL6.out CL.out c3 c4 (by omega) hn (K6.out.cell HK0.out hne) hne CF1.out CF2.out).mono ?_
          rintro r w7 ⟨rfl, L7, o7, mv7, so7, k7⟩
          have O7 := Lib.hid o7; have M7 := Lib.hid mv7; have SO7 := Lib.hid so7
          have K7 := Lib.hid (K6.out.trans k7 (fun _ _ h => h) (fun _ _ h => h) : Kept (fun k => k = g) w w7)
          clear o7 mv7 so7 k7
          by_cases c5 : mid < e
          ·have j5 : (mid : Int) < (e : Int) := by omega
           by_cases c6 : e < b
           ·have j6 : (e : Int) < (b : Int) := by omega
            go_wp2_with fail
            refine (IH.out (b - mid) (by have := HS.out; omega) mid e b rfl O7.out (M7.out.len.trans CL.out) c5 c6 hbn hn (K7.out.cell HK0.out hne) hne (show SortedOn L7 mid e from fun i j a1 a2 a3 => by rw [M7.out.out i (Or.inr (by omega)), M7.out.out j (Or.inr (by omega))]; exact CF3.out i j (by omega) a2 (by omega)) (show SortedOn L7 e b from fun i j a1 a2 a3 => by rw [M7.out.out i (Or.inr (by omega)), M7.out.out j (Or.inr (by omega))]; exact CF4.out i j (by omega) a2 (by omega))).mono ?_
            rintro r w8 ⟨rfl, L8, o8, mv8, so8, k8⟩
            have O8 := Lib.hid o8; have M8 := Lib.hid mv8; have SO8 := Lib.hid so8
            have K8 := Lib.hid (K7.out.trans k8 (fun _ _ h => h) (fun _ _ h => h) : Kept (fun k => k = g) w w8)
            clear o8 mv8 so8 k8
            have J := join_sorted (A := C) (B := L7) (C := L8) (a := a) (mid := mid) (b := b) (by omega) (by omega) M7.out SO7.out M8.out SO8.out CF5.out
            have JJ := Lib.hid J
            clear J
            go_wp2
            go_end0
            exact ⟨rfl, L8, O8.out, CM.out.trans JJ.out.1, JJ.out.2, K8.out⟩
           ·have j6 : ¬ (e : Int) < (b : Int) := by omega
            have J := join_sorted (A := C) (B := L7) (C := L7) (a := a) (mid := mid) (b := b) (by omega) (by omega) M7.out SO7.out (Moved.refl mid b L7) (show SortedOn L7 mid b from fun i j a1 a2 a3 => by rw [M7.out.out i (Or.inr (by omega)), M7.out.out j (Or.inr (by omega))]; exact CF3.out i j (by omega) a2 (by omega)) CF5.out
            have JJ := Lib.hid J
            clear J
            go_wp2
            go_end0
            exact ⟨rfl, L7, O7.out, CM.out.trans JJ.out.1, JJ.out.2, K7.out⟩
          ·have j5 : ¬ (mid : Int) < (e : Int) := by omega
           have J := join_sorted (A := C) (B := L7) (C := L7) (a := a) (mid := mid) (b := b) (by omega) (by omega) M7.out SO7.out (Moved.refl mid b L7) (show SortedOn L7 mid b from fun i j a1 a2 a3 => by rw [M7.out.out i (Or.inr (by omega)), M7.out.out j (Or.inr (by omega))]; exact CF4.out i j (by omega) a2 (by omega)) CF5.out
           have JJ := Lib.hid J
           clear J
           go_wp2
           go_end0
           exact ⟨rfl, L7, O7.out, CM.out.trans JJ.out.1, JJ.out.2, K7.out⟩
         ·have j4 : ¬ (st : Int) < (mid : Int) := by omega
          have M7 := Lib.hid (Moved.refl a mid C)
          have SO7 := Lib.hid (show SortedOn C a mid from fun i j a1 a2 a3 => CF1.out i j a1 a2 (by omega))
          by_cases c5 : mid < e
          ·have j5 : (mid : Int) < (e : Int) := by omega
           by_cases c6 : e < b
           ·have j6 : (e : Int) < (b : Int) := by omega
            go_wp2_with fail
            refine (IH.out (b - mid) (by have := HS.out; omega) mid e b rfl HL6.out (M7.out.len.trans CL.out) c5 c6 hbn hn (K6.out.cell HK0.out hne) hne (show SortedOn C mid e from fun i j a1 a2 a3 => by rw [M7.out.out i (Or.inr (by omega)), M7.out.out j (Or.inr (by omega))]; exact CF3.out i j (by omega) a2 (by omega)) (show SortedOn C e b from fun i j a1 a2 a3 => by rw [M7.out.out i (Or.inr (by omega)), M7.out.out j (Or.inr (by omega))]; exact CF4.out i j (by omega) a2 (by omega))).mono ?_
            rintro r w8 ⟨rfl, L8, o8, mv8, so8, k8⟩
            have O8 := Lib.hid o8; have M8 := Lib.hid mv8; have SO8 := Lib.hid so8
            have K8 := Lib.hid (K6.out.trans k8 (fun _ _ h => h) (fun _ _ h => h) : Kept (fun k => k = g) w w8)
            clear o8 mv8 so8 k8
            have J := join_sorted (A := C) (B := C) (C := L8) (a := a) (mid := mid) (b := b) (by omega) (by omega) M7.out SO7.out M8.out SO8.out CF5.out
            have JJ := Lib.hid J
            clear J
            go_wp2
            go_end0
            exact ⟨rfl, L8, O8.out, CM.out.trans JJ.out.1, JJ.out.2, K8.out⟩
           ·have j6 : ¬ (e : Int) < (b : Int) := by omega
            have J := join_sorted (A := C) (B := C) (C := C) (a := a) (mid := mid) (b := b) (by omega) (by omega) M7.out SO7.out (Moved.refl mid b C) (show SortedOn C mid b from fun i j a1 a2 a3 => by rw [M7.out.out i (Or.inr (by omega)), M7.out.out j (Or.inr (by omega))]; exact CF3.out i j (by omega) a2 (by omega)) CF5.out
            have JJ := Lib.hid J
            clear J
            go_wp2
            go_end0
            exact ⟨rfl, C, HL6.out, CM.out.trans JJ.out.1, JJ.out.2, K6.out⟩
          ·have j5 : ¬ (mid : Int) < (e : Int) := by omega
           have J := join_sorted (A := C) (B := C) (C := C) (a := a) (mid := mid) (b := b) (by omega) (by omega) M7.out SO7.out (Moved.refl mid b C) (show SortedOn C mid b from fun i j a1 a2 a3 => by rw [M7.out.out i (Or.inr (by omega)), M7.out.out j (Or.inr (by omega))]; exact CF4.out i j (by omega) a2 (by omega)) CF5.out
           have JJ := Lib.hid J
           clear J
           go_wp2
           go_end0
           exact ⟨rfl, C, HL6.out, CM.out.trans JJ.out.1, JJ.out.2, K6.out⟩
        ·have j3 : ¬ (a : Int) < (st : Int) := by omega
         have M7 := Lib.hid (Moved.refl a mid C)
         have SO7 := Lib.hid (show SortedOn C a mid from fun i j a1 a2 a3 => CF2.out i j (by omega) a2 a3)
         by_cases c5 : mid < e
         ·have j5 : (mid : Int) < (e : Int) := by omega
          by_cases c6 : e < b
          ·have j6 : (e : Int) < (b : Int) := by omega
           go_wp2_with fail
           refine (IH.out (b - mid) (by have := HS.out; omega) mid e b rfl HL6.out (M7.out.len.trans CL.out) c5 c6 hbn hn (K6.out.cell HK0.out hne) hne (show SortedOn C mid e from fun i j a1 a2 a3 => by rw [M7.out.out i (Or.inr (by omega)), M7.out.out j (Or.inr (by omega))]; exact CF3.out i j (by omega) a2 (by omega)) (show SortedOn C e b from fun i j a1 a2 a3 => by rw [M7.out.out i (Or.inr (by omega)), M7.out.out j (Or.inr (by omega))]; exact CF4.out i j (by omega) a2 (by omega))).mono ?_
           rintro r w8 ⟨rfl, L8, o8, mv8, so8, k8⟩
           have O8 := Lib.hid o8; have M8 := Lib.hid mv8; have SO8 := Lib.hid so8
           have K8 := Lib.hid (K6.out.trans k8 (fun _ _ h => h) (fun _ _ h => h) : Kept (fun k => k = g) w w8)
           clear o8 mv8 so8 k8
           have J := join_sorted (A := C) (B := C) (C := L8) (a := a) (mid := mid) (b := b) (by omega) (by omega) M7.out SO7.out M8.out SO8.out CF5.out
           have JJ := Lib.hid J
           clear J
           go_wp2
           go_end0
           exact ⟨rfl, L8, O8.out, CM.out.trans JJ.out.1, JJ.out.2, K8.out⟩
          ·have j6 : ¬ (e : Int) < (b : Int) := by omega
           have J := join_sorted (A := C) (B := C) (C := C) (a := a) (mid := mid) (b := b) (by omega) (by omega) M7.out SO7.out (Moved.refl mid b C) (show SortedOn C mid b from fun i j a1 a2 a3 => by rw [M7.out.out i (Or.inr (by omega)), M7.out.out j (Or.inr (by omega))]; exact CF3.out i j (by omega) a2 (by omega)) CF5.out
           have JJ := Lib.hid J
           clear J
           go_wp2
           go_end0
           exact ⟨rfl, C, HL6.out, CM.out.trans JJ.out.1, JJ.out.2, K6.out⟩
         ·have j5 : ¬ (mid : Int) < (e : Int) := by omega
          have J := join_sorted (A := C) (B := C) (C := C) (a := a) (mid := mid) (b := b) (by omega) (by omega) M7.out SO7.out (Moved.refl mid b C) (show SortedOn C mid b from fun i j a1 a2 a3 => by rw [M7.out.out i (Or.inr (by omega)), M7.out.out j (Or.inr (by omega))]; exact CF4.out i j (by omega) a2 (by omega)) CF5.out
          have JJ := Lib.hid J
          clear J
          go_wp2
          go_end0
          exact ⟨rfl, C, HL6.out, CM.out.trans JJ.out.1, JJ.out.2, K6.out⟩
      ·have j1 : ¬ (st : Int) < (m : Int) := by omega
       have HL6 := Lib.hid (show wr.ownsRow base 37 8 (.slice (some ⟨g, 0, none⟩) n cap) n (cellsS C) from by rw [← HC.out, cutF, if_neg (by omega)]; exact HO1.out)
       have K6 := Lib.hid (KW.out.mono (fun _ _ f => f.elim) : Kept (fun k => k = g) w wr)
       by_cases c3 : a < st
       ·have j3 : (a : Int) < (st : Int) := by omega
        by_cases c4 : st < mid
        ·have j4 : (st : Int) < (mid : Int) := by omega
         go_wp2_with fail
         refine (IH.out (mid - a) (by have := HS.out; omega) a st mid rfl HL6.out CL.out c3 c4 (by omega) hn (K6.out.cell HK0.out hne) hne CF1.out CF2.out).mono ?_
         rintro r w7 ⟨rfl, L7, o7, mv7, so7, k7⟩
         have O7 := Lib.hid o7; have M7 := Lib.hid mv7; have SO7 := Lib.hid so7
         have K7 := Lib.hid (K6.out.trans k7 (fun _ _ h => h) (fun _ _ h => h) : Kept (fun k => k = g) w w7)
         clear o7 mv7 so7 k7
         by_cases c5 : mid < e
         ·have j5 : (mid : Int) < (e : Int) := by omega
          by_cases c6 : e < b
          ·have j6 : (e : Int) < (b : Int) := by omega
           go_wp2_with fail
           refine (IH.out (b - mid) (by have := HS.out; omega) mid e b rfl O7.out (M7.out.len.trans CL.out) c5 c6 hbn hn (K7.out.cell HK0.out hne) hne (show SortedOn L7 mid e from fun i j a1 a2 a3 => by rw [M7.out.out i (Or.inr (by omega)), M7.out.out j (Or.inr (by omega))]; exact CF3.out i j (by omega) a2 (by omega)) (show SortedOn L7 e b from fun i j a1 a2 a3 => by rw [M7.out.out i (Or.inr (by omega)), M7.out.out j (Or.inr (by omega))]; exact CF4.out i j (by omega) a2 (by omega))).mono ?_
           rintro r w8 ⟨rfl, L8, o8, mv8, so8, k8⟩
           have O8 := Lib.hid o8; have M8 := Lib.hid mv8; have SO8 := Lib.hid so8
           have K8 := Lib.hid (K7.out.trans k8 (fun _ _ h => h) (fun _ _ h => h) : Kept (fun k => k = g) w w8)
           clear o8 mv8 so8 k8
           have J := join_sorted (A := C) (B := L7) (C := L8) (a := a) (mid := mid) (b := b) (by omega) (by omega) M7.out SO7.out M8.out SO8.out CF5.out
           have JJ := Lib.hid J
           clear J
           go_wp2
           go_end0
           exact ⟨rfl, L8, O8.out, CM.out.trans JJ.out.1, JJ.out.2, K8.out⟩
          ·have j6 : ¬ (e : Int) < (b : Int) := by omega
           have J := join_sorted (A := C) (B := L7) (C := L7) (a := a) (mid := mid) (b := b) (by omega) (by omega) M7.out SO7.out (Moved.refl mid b L7) (show SortedOn L7 mid b from fun i j a1 a2 a3 => by rw [M7.out.out i (Or.inr (by omega)), M7.out.out j (Or.inr (by omega))]; exact CF3.out i j (by omega) a2 (by omega)) CF5.out
           have JJ := Lib.hid J
           clear J
           go_wp2
           go_end0
           exact ⟨rfl, L7, O7.out, CM.out.trans JJ.out.1, JJ.out.2, K7.out⟩
         ·have j5 : ¬ (mid : Int) < (e : Int) := by omega
          have J := join_sorted (A := C) (B := L7) (C := L7) (a := a) (mid := mid) (b := b) (by omega) (by omega) M7.out SO7.out (Moved.refl mid b L7) (show SortedOn L7 mid b from fun i j a1 a2 a3 => by rw [M7.out.out i (Or.inr (by omega)), M7.out.out j (Or.inr (by omega))]; exact CF4.out i j (by omega) a2 (by omega)) CF5.out
          have JJ := Lib.hid J
          clear J
          go_wp2
          go_end0
          exact ⟨rfl, L7, O7.out, CM.out.trans JJ.out.1, JJ.out.2, K7.out⟩
        ·have j4 : ¬ (st : Int) < (mid : Int) := by omega
         have M7 := Lib.hid (Moved.refl a mid C)
         have SO7 := Lib.hid (show SortedOn C a mid from fun i j a1 a2 a3 => CF1.out i j a1 a2 (by omega))
         by_cases c5 : mid < e
         ·have j5 : (mid : Int) < (e : Int) := by omega
          by_cases c6 : e < b
          ·have j6 : (e : Int) < (b : Int) := by omega
           go_wp2_with fail
           refine (IH.out (b - mid) (by have := HS.out; omega) mid e b rfl HL6.out (M7.out.len.trans CL.out) c5 c6 hbn hn (K6.out.cell HK0.out hne) hne (show SortedOn C mid e from fun i j a1 a2 a3 => by rw [M7.out.out i (Or.inr (by omega)), M7.out.out j (Or.inr (by omega))]; exact CF3.out i j (by omega) a2 (by omega)) (show SortedOn C e b from fun i j a1 a2 a3 => by rw [M7.out.out i (Or.inr (by omega)), M7.out.out j (Or.inr (by omega))]; exact CF4.out i j (by omega) a2 (by omega))).mono ?_
           rintro r w8 ⟨rfl, L8, o8, mv8, so8, k8⟩
           have O8 := Lib.hid o8; have M8 := Lib.hid mv8; have SO8 := Lib.hid so8
           have K8 := Lib.hid (K6.out.trans k8 (fun _ _ h => h) (fun _ _ h => h) : Kept (fun k => k = g) w w8)
           clear o8 mv8 so8 k8
           have J := join_sorted (A := C) (B := C) (C := L8) (a := a) (mid := mid) (b := b) (by omega) (by omega) M7.out SO7.out M8.out SO8.out CF5.out
           have JJ := Lib.hid J
           clear J
           go_wp2
           go_end0
           exact ⟨rfl, L8, O8.out, CM.out.trans JJ.out.1, JJ.out.2, K8.out⟩
          ·have j6 : ¬ (e : Int) < (b : Int) := by omega
           have J := join_sorted (A := C) (B := C) (C := C) (a := a) (mid := mid) (b := b) (by omega) (by omega) M7.out SO7.out (Moved.refl mid b C) (show SortedOn C mid b from fun i j a1 a2 a3 => by rw [M7.out.out i (Or.inr (by omega)), M7.out.out j (Or.inr (by omega))]; exact CF3.out i j (by omega) a2 (by omega)) CF5.out
           have JJ := Lib.hid J
           clear J
           go_wp2
           go_end0
           exact ⟨rfl, C, HL6.out, CM.out.trans JJ.out.1, JJ.out.2, K6.out⟩
         ·have j5 : ¬ (mid : Int) < (e : Int) := by omega
          have J := join_sorted (A := C) (B := C) (C := C) (a := a) (mid := mid) (b := b) (by omega) (by omega) M7.out SO7.out (Moved.refl mid b C) (show SortedOn C mid b from fun i j a1 a2 a3 => by rw [M7.out.out i (Or.inr (by omega)), M7.out.out j (Or.inr (by omega))]; exact CF4.out i j (by omega) a2 (by omega)) CF5.out
          have JJ := Lib.hid J
          clear J
          go_wp2
          go_end0
          exact ⟨rfl, C, HL6.out, CM.out.trans JJ.out.1, JJ.out.2, K6.out⟩
       ·have j3 : ¬ (a : Int) < (st : Int) := by omega
        have M7 := Lib.hid (Moved.refl a mid C)
        have SO7 := Lib.hid (show SortedOn C a mid from fun i j a1 a2 a3 => CF2.out i j (by omega) a2 a3)
        by_cases c5 : mid < e
        ·have j5 : (mid : Int) < (e : Int) := by omega
         by_cases c6 : e < b
         ·have j6 : (e : Int) < (b : Int) := by omega
          go_wp2_with fail
          refine (IH.out (b - mid) (by have := HS.out; omega) mid e b rfl HL6.out (M7.out.len.trans CL.out) c5 c6 hbn hn (K6.out.cell HK0.out hne) hne (show SortedOn C mid e from fun i j a1 a2 a3 => by rw [M7.out.out i (Or.inr (by omega)), M7.out.out j (Or.inr (by omega))]; exact CF3.out i j (by omega) a2 (by omega)) (show SortedOn C e b from fun i j a1 a2 a3 => by rw [M7.out.out i (Or.inr (by omega)), M7.out.out j (Or.inr (by omega))]; exact CF4.out i j (by omega) a2 (by omega))).mono ?_
          rintro r w8 ⟨rfl, L8, o8, mv8, so8, k8⟩
          have O8 := Lib.hid o8; have M8 := Lib.hid mv8; have SO8 := Lib.hid so8
          have K8 := Lib.hid (K6.out.trans k8 (fun _ _ h => h) (fun _ _ h => h) : Kept (fun k => k = g) w w8)
          clear o8 mv8 so8 k8
          have J := join_sorted (A := C) (B := C) (C := L8) (a := a) (mid := mid) (b := b) (by omega) (by omega) M7.out SO7.out M8.out SO8.out CF5.out
          have JJ := Lib.hid J
          clear J
          go_wp2
          go_end0
          exact ⟨rfl, L8, O8.out, CM.out.trans JJ.out.1, JJ.out.2, K8.out⟩
         ·have j6 : ¬ (e : Int) < (b : Int) := by omega
          have J := join_sorted (A := C) (B := C) (C := C) (a := a) (mid := mid) (b := b) (by omega) (by omega) M7.out SO7.out (Moved.refl mid b C) (show SortedOn C mid b from fun i j a1 a2 a3 => by rw [M7.out.out i (Or.inr (by omega)), M7.out.out j (Or.inr (by omega))]; exact CF3.out i j (by omega) a2 (by omega)) CF5.out
          have JJ := Lib.hid J
          clear J
          go_wp2
          go_end0
          exact ⟨rfl, C, HL6.out, CM.out.trans JJ.out.1, JJ.out.2, K6.out⟩
        ·have j5 : ¬ (mid : Int) < (e : Int) := by omega
         have J := join_sorted (A := C) (B := C) (C := C) (a := a) (mid := mid) (b := b) (by omega) (by omega) M7.out SO7.out (Moved.refl mid b C) (show SortedOn C mid b from fun i j a1 a2 a3 => by rw [M7.out.out i (Or.inr (by omega)), M7.out.out j (Or.inr (by omega))]; exact CF4.out i j (by omega) a2 (by omega)) CF5.out
         have JJ := Lib.hid J
         clear J
         go_wp2
         go_end0
         exact ⟨rfl, C, HL6.out, CM.out.trans JJ.out.1, JJ.out.2, K6.out⟩

   ·have g6 : ¬ (mid : Int) < (m : Int) := by omega
    have IDX := Lib.hid (show ∀ c, a ≤ c → c < m → m ≤ pp - c ∧ pp - c < b from fun c c1 c2 => by omega)
    have ALT := Lib.hid (show nn - a ≤ b ∧ m ≤ mid from by omega)
    clear hd2' hu0 hmid hnn hpp
    go_enter Try.func93, Try.ntmps93
    go_wp2
    clear e1 e2 g1 g2 g3 g4
    go_loopg [20, 21] (m - a) (fun gh s t wr => ∃ (st r : Nat), st + gh = r ∧ a ≤ st ∧ r ≤ m ∧ s = .int .i64 st ∧ t = .int .i64 r ∧ (st = a ∨ (nth L (st - 1)).id ≤ (nth L (nn - st)).id) ∧ (r = m ∨ (nth L (pp - r)).id < (nth L r).id) ∧ Kept (fun _ => False) w wr)
    case atStart => exact ⟨a, m, by omega, Nat.le_refl _, Nat.le_refl _, rfl, rfl, .inl rfl, .inl rfl, Kept.refl _ _⟩
    case round =>
     obtain ⟨st, r, hg, hst, hr, rfl, rfl, lo, hi, kw⟩ := hrel
     have HG := Lib.hid hg; have LO := Lib.hid lo; have HI := Lib.hid hi; have KW := Lib.hid kw
     have HO1 := Lib.hid (own_keptS HO0.out kw (fun _ _ f => f))
     have hb0 := kw.cell HK0.out (fun f => f)
     clear hg lo hi kw
     by_cases hij : st < r
     ·have i0 : (st : Int) < (r : Int) := by omega
      obtain ⟨u, hu⟩ : ∃ u, st + r = u := ⟨_, rfl⟩
      have f2 : IntKind.i64.wrap ((st : Int) + (r : Int)) = (u : Int) := by rw [show (st : Int) + (r : Int) = (u : Int) by omega]; exact IntWalk.i64_in _ (by omega)
      obtain ⟨c, hc⟩ : ∃ c, u / 2 = c := ⟨_, rfl⟩
      have hul : u ≤ 2000 := by omega
      have f3 : (u : Int) / 2 = (c : Int) := by omega
      have hb1 : st ≤ c := by omega
      have hb2 : c < r := by omega
      clear hu hc
      obtain ⟨pc, hpc⟩ : ∃ pc, pp - c = pc := ⟨_, rfl⟩
      have hx1 := IDX.out c (by omega) (by omega)
      rw [hpc] at hx1
      have hx2 := hx1.1; have hx3 := hx1.2
      have f4 : IntKind.i64.wrap ((pp : Int) - (c : Int)) = (pc : Int) := by rw [show (pp : Int) - (c : Int) = (pc : Int) by have := PN.out; omega]; exact IntWalk.i64_in _ (by omega)
      obtain ⟨x, hx⟩ : ∃ x, nth L pc = x := ⟨_, rfl⟩
      obtain ⟨y, hy⟩ : ∃ y, nth L c = y := ⟨_, rfl⟩
      have gx := nth_get (l := L) (k := pc) (by omega)
      have gy := nth_get (l := L) (k := c) (by omega)
      rw [hx] at gx; rw [hy] at gy
      have rx := own_range HO1.out gx
      have ry := own_range HO1.out gy
      have HX := Lib.hid hx; have HY := Lib.hid hy; have PC := Lib.hid hpc
      have i1 : (0 : Int) ≤ (c : Int) := by omega
      have i2 : (c : Int) < (n : Int) := by omega
      have i3 : (0 : Int) ≤ (pc : Int) := by omega
      have i4 : (pc : Int) < (n : Int) := by omega
      clear hx hy gx gy hpc hx1
      by_cases hlt : x.id < y.id
      ·have ec : cmpI x.id y.id < 0 := by unfold cmpI; rw [if_pos hlt]; omega
       have ed : decide (cmpI x.id y.id < 0) = true := by simp [ec]
       go_wp2
       refine wp_region_held_drew (S := (fun w' => w'.cell? ⟨bk, 0, none⟩ = some (.func (.func 73) #[] #[]) ∧ w'.rangeAt g (pc * 8) x.cells ∧ w'.rangeAt g (c * 8) y.cells)) (by kernel_rfl) ?_ (fun hHeld => ?_)
       ·exact ⟨hb0, rx, ry⟩
       refine tW 0 opAt0 hHeld ?_
       (try simp only [Act.put]); try simp only [z2, List.set]
       refine tW 1 opAt1 hHeld ?_
       (try simp only [Act.put]); try simp only [z2, List.set]
       refine tW 2 opAt2 hHeld ?_
       (try simp only [Act.put]); try simp only [z2, List.set]
       refine tW 3 opAt3 hHeld ?_
       (try simp only [Act.put]); try simp only [z2, List.set]
       refine tW 4 opAt4 hHeld ?_
       (try simp only [Act.put]); try simp only [z2, List.set]
       refine tW 5 opAt5 hHeld ?_
       (try simp only [Act.put]); try simp only [z2, List.set]
       refine wpAnyH_take (i := 6) (v := .agg x.cells.toArray) opAt6 (by kernel_rfl) (by kernel_rfl) (by kernel_rfl) (fun _ _ _ h => h) (yieldsIf_load_mid (by rfl) 37 _ (by rfl) g (pc * 8) (by rfl) x.cells _ (fun w hS => hS.2.1) Try.underlying37 rfl info24) hHeld ?_
       (try simp only [Act.put]); try simp only [z2, List.set]
       refine tW 7 opAt7 hHeld ?_
       (try simp only [Act.put]); try simp only [z2, List.set]
       refine tW 8 opAt8 hHeld ?_
       (try simp only [Act.put]); try simp only [z2, List.set]
       refine tW 9 opAt9 hHeld ?_
       (try simp only [Act.put]); try simp only [z2, List.set]
       refine wpAnyH_take (i := 10) (v := .agg y.cells.toArray) opAt10 (by kernel_rfl) (by kernel_rfl) (by kernel_rfl) (fun _ _ _ h => h) (yieldsIf_load_mid (by rfl) 37 _ (by rfl) g (c * 8) (by rfl) y.cells _ (fun w hS => hS.2.2) Try.underlying37 rfl info24) hHeld ?_
       (try simp only [Act.put]); try simp only [z2, List.set]
       refine wpAnyH_ready (rs := [11]) (by kernel_rfl) (by simp) ?_
       refine AllReadyH.cons opAt11 (fun K hK => ?_) AllReadyH.nil
       go_simp
       go_at_call 86; refine (cmp_call x y bk _ hHeld.1).mono ?_; rintro e w5 ⟨rfl, k5⟩; have K5 := Lib.hid k5; dsimp only
       refine hK.out _ _ ?_ (fun hHeld => ?_)
       ·exact ⟨k5.cell hHeld.1 (fun f => f), fun k v hv => k5.cell (hHeld.2.1 k v hv) (fun f => f), fun k v hv => k5.cell (hHeld.2.2 k v hv) (fun f => f)⟩
       clear hK K
       (try simp only [Act.put]); try simp only [z2, List.set]
       refine tW 12 opAt12 hHeld ?_
       (try simp only [Act.put]); try simp only [z2, List.set]
       refine tW 13 opAt13 hHeld ?_
       (try simp only [Act.put]); try simp only [z2, List.set]
       refine wpAnyH_done (by kernel_rfl) ?_ _
       go_wp2
       go_roundg (c - st)
       case measure => have := HG.out; omega
       case rel => exact ⟨st, c, by omega, hst, by omega, rfl, rfl, LO.out, .inr (by rw [PC.out, HX.out, HY.out]; exact hlt), KW.out.drew.trans K5.out (fun _ _ f => f) (fun _ _ f => f)⟩
      ·have ec : ¬ cmpI x.id y.id < 0 := by unfold cmpI; rw [if_neg hlt]; split <;> omega
       have ed : decide (cmpI x.id y.id < 0) = false := by simp; omega
       go_wp2
       refine wp_region_held_drew (S := (fun w' => w'.cell? ⟨bk, 0, none⟩ = some (.func (.func 73) #[] #[]) ∧ w'.rangeAt g (pc * 8) x.cells ∧ w'.rangeAt g (c * 8) y.cells)) (by kernel_rfl) ?_ (fun hHeld => ?_)
       ·exact ⟨hb0, rx, ry⟩
       refine tW 0 opAt0 hHeld ?_
       (try simp only [Act.put]); try simp only [z2, List.set]
       refine tW 1 opAt1 hHeld ?_
       (try simp only [Act.put]); try simp only [z2, List.set]
       refine tW 2 opAt2 hHeld ?_
       (try simp only [Act.put]); try simp only [z2, List.set]
       refine tW 3 opAt3 hHeld ?_
       (try simp only [Act.put]); try simp only [z2, List.set]
       refine tW 4 opAt4 hHeld ?_
       (try simp only [Act.put]); try simp only [z2, List.set]
       refine tW 5 opAt5 hHeld ?_
       (try simp only [Act.put]); try simp only [z2, List.set]
       refine wpAnyH_take (i := 6) (v := .agg x.cells.toArray) opAt6 (by kernel_rfl) (by kernel_rfl) (by kernel_rfl) (fun _ _ _ h => h) (yieldsIf_load_mid (by rfl) 37 _ (by rfl) g (pc * 8) (by rfl) x.cells _ (fun w hS => hS.2.1) Try.underlying37 rfl info24) hHeld ?_
       (try simp only [Act.put]); try simp only [z2, List.set]
       refine tW 7 opAt7 hHeld ?_
       (try simp only [Act.put]); try simp only [z2, List.set]
       refine tW 8 opAt8 hHeld ?_
       (try simp only [Act.put]); try simp only [z2, List.set]
       refine tW 9 opAt9 hHeld ?_
       (try simp only [Act.put]); try simp only [z2, List.set]
       refine wpAnyH_take (i := 10) (v := .agg y.cells.toArray) opAt10 (by kernel_rfl) (by kernel_rfl) (by kernel_rfl) (fun _ _ _ h => h) (yieldsIf_load_mid (by rfl) 37 _ (by rfl) g (c * 8) (by rfl) y.cells _ (fun w hS => hS.2.2) Try.underlying37 rfl info24) hHeld ?_
       (try simp only [Act.put]); try simp only [z2, List.set]
       refine wpAnyH_ready (rs := [11]) (by kernel_rfl) (by simp) ?_
       refine AllReadyH.cons opAt11 (fun K hK => ?_) AllReadyH.nil
       go_simp
       go_at_call 86; refine (cmp_call x y bk _ hHeld.1).mono ?_; rintro e w5 ⟨rfl, k5⟩; have K5 := Lib.hid k5; dsimp only
       refine hK.out _ _ ?_ (fun hHeld => ?_)
       ·exact ⟨k5.cell hHeld.1 (fun f => f), fun k v hv => k5.cell (hHeld.2.1 k v hv) (fun f => f), fun k v hv => k5.cell (hHeld.2.2 k v hv) (fun f => f)⟩
       clear hK K
       (try simp only [Act.put]); try simp only [z2, List.set]
       refine tW 12 opAt12 hHeld ?_
       (try simp only [Act.put]); try simp only [z2, List.set]
       refine tW 13 opAt13 hHeld ?_
       (try simp only [Act.put]); try simp only [z2, List.set]
       refine wpAnyH_done (by kernel_rfl) ?_ _
       go_wp2
       go_roundg (r - (c + 1))
       case measure => have := HG.out; omega
       case rel => exact ⟨c + 1, r, by omega, by omega, hr, by go_num, rfl, .inr (by rw [show c + 1 - 1 = c by omega, show nn - (c + 1) = pc by have := PC.out; have := PN.out; omega, HX.out, HY.out]; omega), HI.out, KW.out.drew.trans K5.out (fun _ _ f => f) (fun _ _ f => f)⟩
     ·have i0 : ¬ (st : Int) < (r : Int) := by omega
      have hsr : st = r := by have := HG.out; omega
      obtain ⟨e, he⟩ : ∃ e, nn - st = e := ⟨_, rfl⟩
      have hnn := PN.out
      have hal := ALT.out
      have f5 : IntKind.i64.wrap ((nn : Int) - (st : Int)) = (e : Int) := by rw [show (nn : Int) - (st : Int) = (e : Int) by omega]; exact IntWalk.i64_in _ (by omega)
      have q1 : a ≤ st := by omega
      have q2 : st ≤ m := by omega
      have q3 : st ≤ mid := by omega
      have q4 : e ≤ b := by omega
      have q5 : m ≤ e := by omega
      have q6 : mid ≤ e := by omega
      have hcf := cut_facts (L := L) (a := a) (m := m) (b := b) (start := st) (mid := mid) (e := e) S1.out S2.out (by omega) q1 q2 q3 ham (by omega) q4 (fun x y x1 x2 y1 y2 => by
       rcases LO.out with h | h
       ·omega
       ·have h1 := S1.out x (st - 1) x1 (by omega) (by omega)
        have h2 := S2.out (nn - st) y (by omega) (by omega) y2
        omega) (fun x y x1 x2 y1 y2 => by
       rcases HI.out with h | h
       ·omega
       ·have h1 := S1.out st x q1 x1 x2
        have h2 := S2.out y (pp - r) y1 (by omega) (by omega)
        rw [← hsr] at h h2
        omega)
      obtain ⟨C, hC⟩ : ∃ C, cutF L st m e = C := ⟨_, rfl⟩
      rw [hC] at hcf
      have HC := Lib.hid hC; have CM := Lib.hid hcf.1; have CF1 := Lib.hid hcf.2.1; have CF2 := Lib.hid hcf.2.2.1; have CF3 := Lib.hid hcf.2.2.2.1; have CF4 := Lib.hid hcf.2.2.2.2.1; have CF5 := Lib.hid hcf.2.2.2.2.2
      have CL := Lib.hid (hcf.1.len.trans hl)
      clear hcf hC hsr he hnn hal
      by_cases c1 : st < m
      ·have j1 : (st : Int) < (m : Int) := by omega
       by_cases c2 : m < e
       ·have j2 : (m : Int) < (e : Int) := by omega
        go_wp2_with fail
        refine (rotate_any _ st m e HO1.out hl c1 c2 (by omega) hn).mono ?_
        rintro r w6 ⟨rfl, o6, k6⟩
        have HL6 := Lib.hid (show w6.ownsRow base 37 8 (.slice (some ⟨g, 0, none⟩) n cap) n (cellsS C) from by rw [← HC.out, cutF, if_pos ⟨c1, c2⟩]; exact o6)
        have K6 := Lib.hid ((KW.out.mono (fun _ _ f => f.elim) : Kept (fun k => k = g) w wr).trans k6 (fun _ _ h => h) (fun _ _ h => h))
        clear o6 k6
        by_cases c3 : a < st
        ·have j3 : (a : Int) < (st : Int) := by omega
         by_cases c4 : st < mid
         ·have j4 : (st : Int) < (mid : Int) := by omega
          go_wp2_with fail
          refine (IH.out (mid - a) (by have := HS.out; omega) a st mid rfl HL6.out CL.out c3 c4 (by omega) hn (K6.out.cell HK0.out hne) hne CF1.out CF2.out).mono ?_
          rintro r w7 ⟨rfl, L7, o7, mv7, so7, k7⟩
          have O7 := Lib.hid o7; have M7 := Lib.hid mv7; have SO7 := Lib.hid so7
          have K7 := Lib.hid (K6.out.trans k7 (fun _ _ h => h) (fun _ _ h => h) : Kept (fun k => k = g) w w7)
          clear o7 mv7 so7 k7
          by_cases c5 : mid < e
          ·have j5 : (mid : Int) < (e : Int) := by omega
           by_cases c6 : e < b
           ·have j6 : (e : Int) < (b : Int) := by omega
            go_wp2_with fail
            refine (IH.out (b - mid) (by have := HS.out; omega) mid e b rfl O7.out (M7.out.len.trans CL.out) c5 c6 hbn hn (K7.out.cell HK0.out hne) hne (show SortedOn L7 mid e from fun i j a1 a2 a3 => by rw [M7.out.out i (Or.inr (by omega)), M7.out.out j (Or.inr (by omega))]; exact CF3.out i j (by omega) a2 (by omega)) (show SortedOn L7 e b from fun i j a1 a2 a3 => by rw [M7.out.out i (Or.inr (by omega)), M7.out.out j (Or.inr (by omega))]; exact CF4.out i j (by omega) a2 (by omega))).mono ?_
            rintro r w8 ⟨rfl, L8, o8, mv8, so8, k8⟩
            have O8 := Lib.hid o8; have M8 := Lib.hid mv8; have SO8 := Lib.hid so8
            have K8 := Lib.hid (K7.out.trans k8 (fun _ _ h => h) (fun _ _ h => h) : Kept (fun k => k = g) w w8)
            clear o8 mv8 so8 k8
            have J := join_sorted (A := C) (B := L7) (C := L8) (a := a) (mid := mid) (b := b) (by omega) (by omega) M7.out SO7.out M8.out SO8.out CF5.out
            have JJ := Lib.hid J
            clear J
            go_wp2
            go_end0
            exact ⟨rfl, L8, O8.out, CM.out.trans JJ.out.1, JJ.out.2, K8.out⟩
           ·have j6 : ¬ (e : Int) < (b : Int) := by omega
            have J := join_sorted (A := C) (B := L7) (C := L7) (a := a) (mid := mid) (b := b) (by omega) (by omega) M7.out SO7.out (Moved.refl mid b L7) (show SortedOn L7 mid b from fun i j a1 a2 a3 => by rw [M7.out.out i (Or.inr (by omega)), M7.out.out j (Or.inr (by omega))]; exact CF3.out i j (by omega) a2 (by omega)) CF5.out
            have JJ := Lib.hid J
            clear J
            go_wp2
            go_end0
            exact ⟨rfl, L7, O7.out, CM.out.trans JJ.out.1, JJ.out.2, K7.out⟩
          ·have j5 : ¬ (mid : Int) < (e : Int) := by omega
           have J := join_sorted (A := C) (B := L7) (C := L7) (a := a) (mid := mid) (b := b) (by omega) (by omega) M7.out SO7.out (Moved.refl mid b L7) (show SortedOn L7 mid b from fun i j a1 a2 a3 => by rw [M7.out.out i (Or.inr (by omega)), M7.out.out j (Or.inr (by omega))]; exact CF4.out i j (by omega) a2 (by omega)) CF5.out
           have JJ := Lib.hid J
           clear J
           go_wp2
           go_end0
           exact ⟨rfl, L7, O7.out, CM.out.trans JJ.out.1, JJ.out.2, K7.out⟩
         ·have j4 : ¬ (st : Int) < (mid : Int) := by omega
          have M7 := Lib.hid (Moved.refl a mid C)
          have SO7 := Lib.hid (show SortedOn C a mid from fun i j a1 a2 a3 => CF1.out i j a1 a2 (by omega))
          by_cases c5 : mid < e
          ·have j5 : (mid : Int) < (e : Int) := by omega
           by_cases c6 : e < b
           ·have j6 : (e : Int) < (b : Int) := by omega
            go_wp2_with fail
            refine (IH.out (b - mid) (by have := HS.out; omega) mid e b rfl HL6.out (M7.out.len.trans CL.out) c5 c6 hbn hn (K6.out.cell HK0.out hne) hne (show SortedOn C mid e from fun i j a1 a2 a3 => by rw [M7.out.out i (Or.inr (by omega)), M7.out.out j (Or.inr (by omega))]; exact CF3.out i j (by omega) a2 (by omega)) (show SortedOn C e b from fun i j a1 a2 a3 => by rw [M7.out.out i (Or.inr (by omega)), M7.out.out j (Or.inr (by omega))]; exact CF4.out i j (by omega) a2 (by omega))).mono ?_
            rintro r w8 ⟨rfl, L8, o8, mv8, so8, k8⟩
            have O8 := Lib.hid o8; have M8 := Lib.hid mv8; have SO8 := Lib.hid so8
            have K8 := Lib.hid (K6.out.trans k8 (fun _ _ h => h) (fun _ _ h => h) : Kept (fun k => k = g) w w8)
            clear o8 mv8 so8 k8
            have J := join_sorted (A := C) (B := C) (C := L8) (a := a) (mid := mid) (b := b) (by omega) (by omega) M7.out SO7.out M8.out SO8.out CF5.out
            have JJ := Lib.hid J
            clear J
            go_wp2
            go_end0
            exact ⟨rfl, L8, O8.out, CM.out.trans JJ.out.1, JJ.out.2, K8.out⟩
           ·have j6 : ¬ (e : Int) < (b : Int) := by omega
            have J := join_sorted (A := C) (B := C) (C := C) (a := a) (mid := mid) (b := b) (by omega) (by omega) M7.out SO7.out (Moved.refl mid b C) (show SortedOn C mid b from fun i j a1 a2 a3 => by rw [M7.out.out i (Or.inr (by omega)), M7.out.out j (Or.inr (by omega))]; exact CF3.out i j (by omega) a2 (by omega)) CF5.out
            have JJ := Lib.hid J
            clear J
            go_wp2
            go_end0
            exact ⟨rfl, C, HL6.out, CM.out.trans JJ.out.1, JJ.out.2, K6.out⟩
          ·have j5 : ¬ (mid : Int) < (e : Int) := by omega
           have J := join_sorted (A := C) (B := C) (C := C) (a := a) (mid := mid) (b := b) (by omega) (by omega) M7.out SO7.out (Moved.refl mid b C) (show SortedOn C mid b from fun i j a1 a2 a3 => by rw [M7.out.out i (Or.inr (by omega)), M7.out.out j (Or.inr (by omega))]; exact CF4.out i j (by omega) a2 (by omega)) CF5.out
           have JJ := Lib.hid J
           clear J
           go_wp2
           go_end0
           exact ⟨rfl, C, HL6.out, CM.out.trans JJ.out.1, JJ.out.2, K6.out⟩
        ·have j3 : ¬ (a : Int) < (st : Int) := by omega
         have M7 := Lib.hid (Moved.refl a mid C)
         have SO7 := Lib.hid (show SortedOn C a mid from fun i j a1 a2 a3 => CF2.out i j (by omega) a2 a3)
         by_cases c5 : mid < e
         ·have j5 : (mid : Int) < (e : Int) := by omega
          by_cases c6 : e < b
          ·have j6 : (e : Int) < (b : Int) := by omega
           go_wp2_with fail
           refine (IH.out (b - mid) (by have := HS.out; omega) mid e b rfl HL6.out (M7.out.len.trans CL.out) c5 c6 hbn hn (K6.out.cell HK0.out hne) hne (show SortedOn C mid e from fun i j a1 a2 a3 => by rw [M7.out.out i (Or.inr (by omega)), M7.out.out j (Or.inr (by omega))]; exact CF3.out i j (by omega) a2 (by omega)) (show SortedOn C e b from fun i j a1 a2 a3 => by rw [M7.out.out i (Or.inr (by omega)), M7.out.out j (Or.inr (by omega))]; exact CF4.out i j (by omega) a2 (by omega))).mono ?_
           rintro r w8 ⟨rfl, L8, o8, mv8, so8, k8⟩
           have O8 := Lib.hid o8; have M8 := Lib.hid mv8; have SO8 := Lib.hid so8
           have K8 := Lib.hid (K6.out.trans k8 (fun _ _ h => h) (fun _ _ h => h) : Kept (fun k => k = g) w w8)
           clear o8 mv8 so8 k8
           have J := join_sorted (A := C) (B := C) (C := L8) (a := a) (mid := mid) (b := b) (by omega) (by omega) M7.out SO7.out M8.out SO8.out CF5.out
           have JJ := Lib.hid J
           clear J
           go_wp2
           go_end0
           exact ⟨rfl, L8, O8.out, CM.out.trans JJ.out.1, JJ.out.2, K8.out⟩
          ·have j6 : ¬ (e : Int) < (b : Int) := by omega
           have J := join_sorted (A := C) (B := C) (C := C) (a := a) (mid := mid) (b := b) (by omega) (by omega) M7.out SO7.out (Moved.refl mid b C) (show SortedOn C mid b from fun i j a1 a2 a3 => by rw [M7.out.out i (Or.inr (by omega)), M7.out.out j (Or.inr (by omega))]; exact CF3.out i j (by omega) a2 (by omega)) CF5.out
           have JJ := Lib.hid J
           clear J
           go_wp2
           go_end0
           exact ⟨rfl, C, HL6.out, CM.out.trans JJ.out.1, JJ.out.2, K6.out⟩
         ·have j5 : ¬ (mid : Int) < (e : Int) := by omega
          have J := join_sorted (A := C) (B := C) (C := C) (a := a) (mid := mid) (b := b) (by omega) (by omega) M7.out SO7.out (Moved.refl mid b C) (show SortedOn C mid b from fun i j a1 a2 a3 => by rw [M7.out.out i (Or.inr (by omega)), M7.out.out j (Or.inr (by omega))]; exact CF4.out i j (by omega) a2 (by omega)) CF5.out
          have JJ := Lib.hid J
          clear J
          go_wp2
          go_end0
          exact ⟨rfl, C, HL6.out, CM.out.trans JJ.out.1, JJ.out.2, K6.out⟩
       ·have j2 : ¬ (m : Int) < (e : Int) := by omega
        have HL6 := Lib.hid (show wr.ownsRow base 37 8 (.slice (some ⟨g, 0, none⟩) n cap) n (cellsS C) from by rw [← HC.out, cutF, if_neg (by omega)]; exact HO1.out)
        have K6 := Lib.hid (KW.out.mono (fun _ _ f => f.elim) : Kept (fun k => k = g) w wr)
        by_cases c3 : a < st
        ·have j3 : (a : Int) < (st : Int) := by omega
         by_cases c4 : st < mid
         ·have j4 : (st : Int) < (mid : Int) := by omega
          go_wp2_with fail
          refine (IH.out (mid - a) (by have := HS.out; omega) a st mid rfl HL6.out CL.out c3 c4 (by omega) hn (K6.out.cell HK0.out hne) hne CF1.out CF2.out).mono ?_
          rintro r w7 ⟨rfl, L7, o7, mv7, so7, k7⟩
          have O7 := Lib.hid o7; have M7 := Lib.hid mv7; have SO7 := Lib.hid so7
          have K7 := Lib.hid (K6.out.trans k7 (fun _ _ h => h) (fun _ _ h => h) : Kept (fun k => k = g) w w7)
          clear o7 mv7 so7 k7
          by_cases c5 : mid < e
          ·have j5 : (mid : Int) < (e : Int) := by omega
           by_cases c6 : e < b
           ·have j6 : (e : Int) < (b : Int) := by omega
            go_wp2_with fail
            refine (IH.out (b - mid) (by have := HS.out; omega) mid e b rfl O7.out (M7.out.len.trans CL.out) c5 c6 hbn hn (K7.out.cell HK0.out hne) hne (show SortedOn L7 mid e from fun i j a1 a2 a3 => by rw [M7.out.out i (Or.inr (by omega)), M7.out.out j (Or.inr (by omega))]; exact CF3.out i j (by omega) a2 (by omega)) (show SortedOn L7 e b from fun i j a1 a2 a3 => by rw [M7.out.out i (Or.inr (by omega)), M7.out.out j (Or.inr (by omega))]; exact CF4.out i j (by omega) a2 (by omega))).mono ?_
            rintro r w8 ⟨rfl, L8, o8, mv8, so8, k8⟩
            have O8 := Lib.hid o8; have M8 := Lib.hid mv8; have SO8 := Lib.hid so8
            have K8 := Lib.hid (K7.out.trans k8 (fun _ _ h => h) (fun _ _ h => h) : Kept (fun k => k = g) w w8)
            clear o8 mv8 so8 k8
            have J := join_sorted (A := C) (B := L7) (C := L8) (a := a) (mid := mid) (b := b) (by omega) (by omega) M7.out SO7.out M8.out SO8.out CF5.out
            have JJ := Lib.hid J
            clear J
            go_wp2
            go_end0
            exact ⟨rfl, L8, O8.out, CM.out.trans JJ.out.1, JJ.out.2, K8.out⟩
           ·have j6 : ¬ (e : Int) < (b : Int) := by omega
            have J := join_sorted (A := C) (B := L7) (C := L7) (a := a) (mid := mid) (b := b) (by omega) (by omega) M7.out SO7.out (Moved.refl mid b L7) (show SortedOn L7 mid b from fun i j a1 a2 a3 => by rw [M7.out.out i (Or.inr (by omega)), M7.out.out j (Or.inr (by omega))]; exact CF3.out i j (by omega) a2 (by omega)) CF5.out
            have JJ := Lib.hid J
            clear J
            go_wp2
            go_end0
            exact ⟨rfl, L7, O7.out, CM.out.trans JJ.out.1, JJ.out.2, K7.out⟩
          ·have j5 : ¬ (mid : Int) < (e : Int) := by omega
           have J := join_sorted (A := C) (B := L7) (C := L7) (a := a) (mid := mid) (b := b) (by omega) (by omega) M7.out SO7.out (Moved.refl mid b L7) (show SortedOn L7 mid b from fun i j a1 a2 a3 => by rw [M7.out.out i (Or.inr (by omega)), M7.out.out j (Or.inr (by omega))]; exact CF4.out i j (by omega) a2 (by omega)) CF5.out
           have JJ := Lib.hid J
           clear J
           go_wp2
           go_end0
           exact ⟨rfl, L7, O7.out, CM.out.trans JJ.out.1, JJ.out.2, K7.out⟩
         ·have j4 : ¬ (st : Int) < (mid : Int) := by omega
          have M7 := Lib.hid (Moved.refl a mid C)
          have SO7 := Lib.hid (show SortedOn C a mid from fun i j a1 a2 a3 => CF1.out i j a1 a2 (by omega))
          by_cases c5 : mid < e
          ·have j5 : (mid : Int) < (e : Int) := by omega
           by_cases c6 : e < b
           ·have j6 : (e : Int) < (b : Int) := by omega
            go_wp2_with fail
            refine (IH.out (b - mid) (by have := HS.out; omega) mid e b rfl HL6.out (M7.out.len.trans CL.out) c5 c6 hbn hn (K6.out.cell HK0.out hne) hne (show SortedOn C mid e from fun i j a1 a2 a3 => by rw [M7.out.out i (Or.inr (by omega)), M7.out.out j (Or.inr (by omega))]; exact CF3.out i j (by omega) a2 (by omega)) (show SortedOn C e b from fun i j a1 a2 a3 => by rw [M7.out.out i (Or.inr (by omega)), M7.out.out j (Or.inr (by omega))]; exact CF4.out i j (by omega) a2 (by omega))).mono ?_
            rintro r w8 ⟨rfl, L8, o8, mv8, so8, k8⟩
            have O8 := Lib.hid o8; have M8 := Lib.hid mv8; have SO8 := Lib.hid so8
            have K8 := Lib.hid (K6.out.trans k8 (fun _ _ h => h) (fun _ _ h => h) : Kept (fun k => k = g) w w8)
            clear o8 mv8 so8 k8
            have J := join_sorted (A := C) (B := C) (C := L8) (a := a) (mid := mid) (b := b) (by omega) (by omega) M7.out SO7.out M8.out SO8.out CF5.out
            have JJ := Lib.hid J
            clear J
            go_wp2
            go_end0
            exact ⟨rfl, L8, O8.out, CM.out.trans JJ.out.1, JJ.out.2, K8.out⟩
           ·have j6 : ¬ (e : Int) < (b : Int) := by omega
            have J := join_sorted (A := C) (B := C) (C := C) (a := a) (mid := mid) (b := b) (by omega) (by omega) M7.out SO7.out (Moved.refl mid b C) (show SortedOn C mid b from fun i j a1 a2 a3 => by rw [M7.out.out i (Or.inr (by omega)), M7.out.out j (Or.inr (by omega))]; exact CF3.out i j (by omega) a2 (by omega)) CF5.out
            have JJ := Lib.hid J
            clear J
            go_wp2
            go_end0
            exact ⟨rfl, C, HL6.out, CM.out.trans JJ.out.1, JJ.out.2, K6.out⟩
          ·have j5 : ¬ (mid : Int) < (e : Int) := by omega
           have J := join_sorted (A := C) (B := C) (C := C) (a := a) (mid := mid) (b := b) (by omega) (by omega) M7.out SO7.out (Moved.refl mid b C) (show SortedOn C mid b from fun i j a1 a2 a3 => by rw [M7.out.out i (Or.inr (by omega)), M7.out.out j (Or.inr (by omega))]; exact CF4.out i j (by omega) a2 (by omega)) CF5.out
           have JJ := Lib.hid J
           clear J
           go_wp2
           go_end0
           exact ⟨rfl, C, HL6.out, CM.out.trans JJ.out.1, JJ.out.2, K6.out⟩
        ·have j3 : ¬ (a : Int) < (st : Int) := by omega
         have M7 := Lib.hid (Moved.refl a mid C)
         have SO7 := Lib.hid (show SortedOn C a mid from fun i j a1 a2 a3 => CF2.out i j (by omega) a2 a3)
         by_cases c5 : mid < e
         ·have j5 : (mid : Int) < (e : Int) := by omega
          by_cases c6 : e < b
          ·have j6 : (e : Int) < (b : Int) := by omega
           go_wp2_with fail
           refine (IH.out (b - mid) (by have := HS.out; omega) mid e b rfl HL6.out (M7.out.len.trans CL.out) c5 c6 hbn hn (K6.out.cell HK0.out hne) hne (show SortedOn C mid e from fun i j a1 a2 a3 => by rw [M7.out.out i (Or.inr (by omega)), M7.out.out j (Or.inr (by omega))]; exact CF3.out i j (by omega) a2 (by omega)) (show SortedOn C e b from fun i j a1 a2 a3 => by rw [M7.out.out i (Or.inr (by omega)), M7.out.out j (Or.inr (by omega))]; exact CF4.out i j (by omega) a2 (by omega))).mono ?_
           rintro r w8 ⟨rfl, L8, o8, mv8, so8, k8⟩
           have O8 := Lib.hid o8; have M8 := Lib.hid mv8; have SO8 := Lib.hid so8
           have K8 := Lib.hid (K6.out.trans k8 (fun _ _ h => h) (fun _ _ h => h) : Kept (fun k => k = g) w w8)
           clear o8 mv8 so8 k8
           have J := join_sorted (A := C) (B := C) (C := L8) (a := a) (mid := mid) (b := b) (by omega) (by omega) M7.out SO7.out M8.out SO8.out CF5.out
           have JJ := Lib.hid J
           clear J
           go_wp2
           go_end0
           exact ⟨rfl, L8, O8.out, CM.out.trans JJ.out.1, JJ.out.2, K8.out⟩
          ·have j6 : ¬ (e : Int) < (b : Int) := by omega
           have J := join_sorted (A := C) (B := C) (C := C) (a := a) (mid := mid) (b := b) (by omega) (by omega) M7.out SO7.out (Moved.refl mid b C) (show SortedOn C mid b from fun i j a1 a2 a3 => by rw [M7.out.out i (Or.inr (by omega)), M7.out.out j (Or.inr (by omega))]; exact CF3.out i j (by omega) a2 (by omega)) CF5.out
           have JJ := Lib.hid J
           clear J
           go_wp2
           go_end0
           exact ⟨rfl, C, HL6.out, CM.out.trans JJ.out.1, JJ.out.2, K6.out⟩
         ·have j5 : ¬ (mid : Int) < (e : Int) := by omega
          have J := join_sorted (A := C) (B := C) (C := C) (a := a) (mid := mid) (b := b) (by omega) (by omega) M7.out SO7.out (Moved.refl mid b C) (show SortedOn C mid b from fun i j a1 a2 a3 => by rw [M7.out.out i (Or.inr (by omega)), M7.out.out j (Or.inr (by omega))]; exact CF4.out i j (by omega) a2 (by omega)) CF5.out
          have JJ := Lib.hid J
          clear J
          go_wp2
          go_end0
          exact ⟨rfl, C, HL6.out, CM.out.trans JJ.out.1, JJ.out.2, K6.out⟩
      ·have j1 : ¬ (st : Int) < (m : Int) := by omega
       have HL6 := Lib.hid (show wr.ownsRow base 37 8 (.slice (some ⟨g, 0, none⟩) n cap) n (cellsS C) from by rw [← HC.out, cutF, if_neg (by omega)]; exact HO1.out)
       have K6 := Lib.hid (KW.out.mono (fun _ _ f => f.elim) : Kept (fun k => k = g) w wr)
       by_cases c3 : a < st
       ·have j3 : (a : Int) < (st : Int) := by omega
        by_cases c4 : st < mid
        ·have j4 : (st : Int) < (mid : Int) := by omega
         go_wp2_with fail
         refine (IH.out (mid - a) (by have := HS.out; omega) a st mid rfl HL6.out CL.out c3 c4 (by omega) hn (K6.out.cell HK0.out hne) hne CF1.out CF2.out).mono ?_
         rintro r w7 ⟨rfl, L7, o7, mv7, so7, k7⟩
         have O7 := Lib.hid o7; have M7 := Lib.hid mv7; have SO7 := Lib.hid so7
         have K7 := Lib.hid (K6.out.trans k7 (fun _ _ h => h) (fun _ _ h => h) : Kept (fun k => k = g) w w7)
         clear o7 mv7 so7 k7
         by_cases c5 : mid < e
         ·have j5 : (mid : Int) < (e : Int) := by omega
          by_cases c6 : e < b
          ·have j6 : (e : Int) < (b : Int) := by omega
           go_wp2_with fail
           refine (IH.out (b - mid) (by have := HS.out; omega) mid e b rfl O7.out (M7.out.len.trans CL.out) c5 c6 hbn hn (K7.out.cell HK0.out hne) hne (show SortedOn L7 mid e from fun i j a1 a2 a3 => by rw [M7.out.out i (Or.inr (by omega)), M7.out.out j (Or.inr (by omega))]; exact CF3.out i j (by omega) a2 (by omega)) (show SortedOn L7 e b from fun i j a1 a2 a3 => by rw [M7.out.out i (Or.inr (by omega)), M7.out.out j (Or.inr (by omega))]; exact CF4.out i j (by omega) a2 (by omega))).mono ?_
           rintro r w8 ⟨rfl, L8, o8, mv8, so8, k8⟩
           have O8 := Lib.hid o8; have M8 := Lib.hid mv8; have SO8 := Lib.hid so8
           have K8 := Lib.hid (K7.out.trans k8 (fun _ _ h => h) (fun _ _ h => h) : Kept (fun k => k = g) w w8)
           clear o8 mv8 so8 k8
           have J := join_sorted (A := C) (B := L7) (C := L8) (a := a) (mid := mid) (b := b) (by omega) (by omega) M7.out SO7.out M8.out SO8.out CF5.out
           have JJ := Lib.hid J
           clear J
           go_wp2
           go_end0
           exact ⟨rfl, L8, O8.out, CM.out.trans JJ.out.1, JJ.out.2, K8.out⟩
          ·have j6 : ¬ (e : Int) < (b : Int) := by omega
           have J := join_sorted (A := C) (B := L7) (C := L7) (a := a) (mid := mid) (b := b) (by omega) (by omega) M7.out SO7.out (Moved.refl mid b L7) (show SortedOn L7 mid b from fun i j a1 a2 a3 => by rw [M7.out.out i (Or.inr (by omega)), M7.out.out j (Or.inr (by omega))]; exact CF3.out i j (by omega) a2 (by omega)) CF5.out
           have JJ := Lib.hid J
           clear J
           go_wp2
           go_end0
           exact ⟨rfl, L7, O7.out, CM.out.trans JJ.out.1, JJ.out.2, K7.out⟩
         ·have j5 : ¬ (mid : Int) < (e : Int) := by omega
          have J := join_sorted (A := C) (B := L7) (C := L7) (a := a) (mid := mid) (b := b) (by omega) (by omega) M7.out SO7.out (Moved.refl mid b L7) (show SortedOn L7 mid b from fun i j a1 a2 a3 => by rw [M7.out.out i (Or.inr (by omega)), M7.out.out j (Or.inr (by omega))]; exact CF4.out i j (by omega) a2 (by omega)) CF5.out
          have JJ := Lib.hid J
          clear J
          go_wp2
          go_end0
          exact ⟨rfl, L7, O7.out, CM.out.trans JJ.out.1, JJ.out.2, K7.out⟩
        ·have j4 : ¬ (st : Int) < (mid : Int) := by omega
         have M7 := Lib.hid (Moved.refl a mid C)
         have SO7 := Lib.hid (show SortedOn C a mid from fun i j a1 a2 a3 => CF1.out i j a1 a2 (by omega))
         by_cases c5 : mid < e
         ·have j5 : (mid : Int) < (e : Int) := by omega
          by_cases c6 : e < b
          ·have j6 : (e : Int) < (b : Int) := by omega
           go_wp2_with fail
           refine (IH.out (b - mid) (by have := HS.out; omega) mid e b rfl HL6.out (M7.out.len.trans CL.out) c5 c6 hbn hn (K6.out.cell HK0.out hne) hne (show SortedOn C mid e from fun i j a1 a2 a3 => by rw [M7.out.out i (Or.inr (by omega)), M7.out.out j (Or.inr (by omega))]; exact CF3.out i j (by omega) a2 (by omega)) (show SortedOn C e b from fun i j a1 a2 a3 => by rw [M7.out.out i (Or.inr (by omega)), M7.out.out j (Or.inr (by omega))]; exact CF4.out i j (by omega) a2 (by omega))).mono ?_
           rintro r w8 ⟨rfl, L8, o8, mv8, so8, k8⟩
           have O8 := Lib.hid o8; have M8 := Lib.hid mv8; have SO8 := Lib.hid so8
           have K8 := Lib.hid (K6.out.trans k8 (fun _ _ h => h) (fun _ _ h => h) : Kept (fun k => k = g) w w8)
           clear o8 mv8 so8 k8
           have J := join_sorted (A := C) (B := C) (C := L8) (a := a) (mid := mid) (b := b) (by omega) (by omega) M7.out SO7.out M8.out SO8.out CF5.out
           have JJ := Lib.hid J
           clear J
           go_wp2
           go_end0
           exact ⟨rfl, L8, O8.out, CM.out.trans JJ.out.1, JJ.out.2, K8.out⟩
          ·have j6 : ¬ (e : Int) < (b : Int) := by omega
           have J := join_sorted (A := C) (B := C) (C := C) (a := a) (mid := mid) (b := b) (by omega) (by omega) M7.out SO7.out (Moved.refl mid b C) (show SortedOn C mid b from fun i j a1 a2 a3 => by rw [M7.out.out i (Or.inr (by omega)), M7.out.out j (Or.inr (by omega))]; exact CF3.out i j (by omega) a2 (by omega)) CF5.out
           have JJ := Lib.hid J
           clear J
           go_wp2
           go_end0
           exact ⟨rfl, C, HL6.out, CM.out.trans JJ.out.1, JJ.out.2, K6.out⟩
         ·have j5 : ¬ (mid : Int) < (e : Int) := by omega
          have J := join_sorted (A := C) (B := C) (C := C) (a := a) (mid := mid) (b := b) (by omega) (by omega) M7.out SO7.out (Moved.refl mid b C) (show SortedOn C mid b from fun i j a1 a2 a3 => by rw [M7.out.out i (Or.inr (by omega)), M7.out.out j (Or.inr (by omega))]; exact CF4.out i j (by omega) a2 (by omega)) CF5.out
          have JJ := Lib.hid J
          clear J
          go_wp2
          go_end0
          exact ⟨rfl, C, HL6.out, CM.out.trans JJ.out.1, JJ.out.2, K6.out⟩
       ·have j3 : ¬ (a : Int) < (st : Int) := by omega
        have M7 := Lib.hid (Moved.refl a mid C)
        have SO7 := Lib.hid (show SortedOn C a mid from fun i j a1 a2 a3 => CF2.out i j (by omega) a2 a3)
        by_cases c5 : mid < e
        ·have j5 : (mid : Int) < (e : Int) := by omega
         by_cases c6 : e < b
         ·have j6 : (e : Int) < (b : Int) := by omega
          go_wp2_with fail
          refine (IH.out (b - mid) (by have := HS.out; omega) mid e b rfl HL6.out (M7.out.len.trans CL.out) c5 c6 hbn hn (K6.out.cell HK0.out hne) hne (show SortedOn C mid e from fun i j a1 a2 a3 => by rw [M7.out.out i (Or.inr (by omega)), M7.out.out j (Or.inr (by omega))]; exact CF3.out i j (by omega) a2 (by omega)) (show SortedOn C e b from fun i j a1 a2 a3 => by rw [M7.out.out i (Or.inr (by omega)), M7.out.out j (Or.inr (by omega))]; exact CF4.out i j (by omega) a2 (by omega))).mono ?_
          rintro r w8 ⟨rfl, L8, o8, mv8, so8, k8⟩
          have O8 := Lib.hid o8; have M8 := Lib.hid mv8; have SO8 := Lib.hid so8
          have K8 := Lib.hid (K6.out.trans k8 (fun _ _ h => h) (fun _ _ h => h) : Kept (fun k => k = g) w w8)
          clear o8 mv8 so8 k8
          have J := join_sorted (A := C) (B := C) (C := L8) (a := a) (mid := mid) (b := b) (by omega) (by omega) M7.out SO7.out M8.out SO8.out CF5.out
          have JJ := Lib.hid J
          clear J
          go_wp2
          go_end0
          exact ⟨rfl, L8, O8.out, CM.out.trans JJ.out.1, JJ.out.2, K8.out⟩
         ·have j6 : ¬ (e : Int) < (b : Int) := by omega
          have J := join_sorted (A := C) (B := C) (C := C) (a := a) (mid := mid) (b := b) (by omega) (by omega) M7.out SO7.out (Moved.refl mid b C) (show SortedOn C mid b from fun i j a1 a2 a3 => by rw [M7.out.out i (Or.inr (by omega)), M7.out.out j (Or.inr (by omega))]; exact CF3.out i j (by omega) a2 (by omega)) CF5.out
          have JJ := Lib.hid J
          clear J
          go_wp2
          go_end0
          exact ⟨rfl, C, HL6.out, CM.out.trans JJ.out.1, JJ.out.2, K6.out⟩
        ·have j5 : ¬ (mid : Int) < (e : Int) := by omega
         have J := join_sorted (A := C) (B := C) (C := C) (a := a) (mid := mid) (b := b) (by omega) (by omega) M7.out SO7.out (Moved.refl mid b C) (show SortedOn C mid b from fun i j a1 a2 a3 => by rw [M7.out.out i (Or.inr (by omega)), M7.out.out j (Or.inr (by omega))]; exact CF4.out i j (by omega) a2 (by omega)) CF5.out
         have JJ := Lib.hid J
         clear J
         go_wp2
         go_end0
         exact ⟨rfl, C, HL6.out, CM.out.trans JJ.out.1, JJ.out.2, K6.out⟩

end Go.Proofs.Ytibakmchgppndaa
/- slices.stableCmpFunc, slices.SortStableFunc over spans. -/
namespace Go.Proofs.Ytibakmchgppndaa
open Go.RowKit

set_option maxHeartbeats 8000000 in
set_option maxRecDepth 100000 in
theorem stable_any {w : World} {base g n cap bk : Nat} {L : List Spn} (ho : w.ownsRow base 37 8 (.slice (some ⟨g, 0, none⟩) n cap) n (cellsS L)) (hl : L.length = n) (hn : n ≤ 1000) (hk : w.cell? ⟨bk, 0, none⟩ = some (.func (.func 73) #[] #[])) (hne : bk ≠ g) :
  Calls Try.prog 92 #[.slice (some ⟨g, 0, none⟩) n cap, .int .i64 n, cmpV bk] w fun e w' => e = .returned (.tuple #[]) ∧ ∃ L', w'.ownsRow base 37 8 (.slice (some ⟨g, 0, none⟩) n cap) n (cellsS L') ∧ Moved 0 n L L' ∧ SortedOn L' 0 n ∧ Kept (fun k => k = g) w w' := by
 have HO0 := Lib.hid ho; have HK0 := Lib.hid hk
 clear ho hk
 go_enter Try.func92, Try.ntmps92
 go_wp2
 go_loopg [7, 8] n (fun gh s t wr => ∃ (a b : Nat) (L1 : List Spn), a + gh = n ∧ b = a + 20 ∧ s = .int .i64 a ∧ t = .int .i64 b ∧ L1.length = n ∧ wr.ownsRow base 37 8 (.slice (some ⟨g, 0, none⟩) n cap) n (cellsS L1) ∧ Moved 0 n L L1 ∧ Ins 20 a L1 ∧ Kept (fun k => k = g) w wr)
 case atStart => exact ⟨0, 20, L, by omega, rfl, by go_num, by go_num, hl, HO0.out, Moved.refl _ _ _, Ins.start _ _, Kept.refl _ _⟩
 case round =>
  obtain ⟨a, b, L1, hg, hb, rfl, rfl, hl1, ho1, mv1, in1, k1⟩ := hrel
  have HG := Lib.hid hg; have HB := Lib.hid hb; have HO1 := Lib.hid ho1; have M1 := Lib.hid mv1; have I1 := Lib.hid in1; have K1 := Lib.hid k1
  have han : a ≤ n := by omega
  have hbn2 : b ≤ n + 20 := by omega
  clear hg hb ho1 mv1 in1 k1
  have hb0 := K1.out.cell HK0.out hne
  by_cases hbn : b ≤ n
  ·have e1 : (b : Int) ≤ (n : Int) := by omega
   have fa := insert_facts (L := L1) (a := a) (b := b) (by omega)
   have FA := Lib.hid fa
   have e2 : IntKind.i64.wrap ((b : Int) + 20) = ((b + 20 : Nat) : Int) := by rw [show (b : Int) + 20 = ((b + 20 : Nat) : Int) by omega]; exact IntWalk.i64_in _ (by omega)
   clear fa
   go_wp2_with fail
   refine (tinsert_any a b HO1.out hl1 han hbn hn hb0 hne).mono ?_
   rintro e w5 ⟨rfl, o5, k5⟩
   have O5 := Lib.hid o5; have K5 := Lib.hid (K1.out.trans k5 (fun _ _ h => h) (fun _ _ h => h) : Kept (fun k => k = g) w w5)
   clear o5 k5
   go_wp2
   go_roundg (n - b)
   case measure => have := HG.out; have := HB.out; omega
   case rel => 
    have hb2 := HB.out
    exact ⟨b, b + 20, insF a b (a + 1) L1, by omega, rfl, rfl, by go_num, FA.out.1.len.trans hl1, O5.out, M1.out.trans (FA.out.1.wider (by omega) hbn), by have h := I1.out.next (L' := insF a b (a + 1) L1) (by rw [← hb2]; exact FA.out.1) (by rw [← hb2]; exact FA.out.2); rw [← hb2] at h; exact h, K5.out⟩
  ·have e1 : ¬ (b : Int) ≤ (n : Int) := by omega
   have fa := insert_facts (L := L1) (a := a) (b := n) (by omega)
   have FA := Lib.hid fa
   have BL := Lib.hid (I1.out.done (by have := HB.out; omega) fa.1 fa.2)
   clear fa
   go_wp2_with fail
   refine (tinsert_any a n HO1.out hl1 han (Nat.le_refl _) hn hb0 hne).mono ?_
   rintro e w5 ⟨rfl, o5, k5⟩
   have HO2 := Lib.hid o5; have K2 := Lib.hid (K1.out.trans k5 (fun _ _ h => h) (fun _ _ h => h) : Kept (fun k => k = g) w w5)
   have M2 := Lib.hid (M1.out.trans (FA.out.1.wider (Nat.zero_le _) (Nat.le_refl _)))
   have hl2 : (insF a n (a + 1) L1).length = n := FA.out.1.len.trans hl1
   clear o5 k5 HO1 K1 M1 FA I1 hl1 hb0
   generalize insF a n (a + 1) L1 = L2 at *
   clear e1 hbn han hbn2 HG HB
   go_wp2
   go_loopg [6, 7, 8, 9] (n - 20) (fun gh r _ _ _ wr => ∃ (B : Nat) (L1 : List Spn), n - B = gh ∧ 0 < B ∧ B ≤ 2000 ∧ r = .int .i64 B ∧ L1.length = n ∧ wr.ownsRow base 37 8 (.slice (some ⟨g, 0, none⟩) n cap) n (cellsS L1) ∧ Moved 0 n L L1 ∧ Blks B n L1 ∧ Kept (fun k => k = g) w wr)
   case atStart => exact ⟨20, L2, rfl, by omega, by omega, by go_num, hl2, HO2.out, M2.out, BL.out, K2.out⟩
   case round =>
    obtain ⟨B, L3, hg, hB, hB2, rfl, hl3, ho3, mv3, bl3, k3⟩ := hrel
    have HG := Lib.hid hg; have HO3 := Lib.hid ho3; have M3 := Lib.hid mv3; have B3 := Lib.hid bl3; have K3 := Lib.hid k3
    clear hg ho3 mv3 bl3 k3 HO2 M2 BL K2 hl2
    by_cases hBn : B < n
    ·have e1 : (B : Int) < (n : Int) := by omega
     obtain ⟨C, hC⟩ : ∃ C, 2 * B = C := ⟨_, rfl⟩
     have e2 : IntKind.i64.wrap (2 * (B : Int)) = (C : Int) := by rw [show 2 * (B : Int) = (C : Int) by omega]; exact IntWalk.i64_in _ (by omega)
     have e3 : IntKind.i64.wrap ((B : Int) * 2) = (C : Int) := by rw [show (B : Int) * 2 = (C : Int) by omega]; exact IntWalk.i64_in _ (by omega)
     have HC := Lib.hid hC
     have hC2 : C ≤ 2000 := by omega
     have hCB : B < C := by omega
     clear hC
     go_wp2
     go_loopg [7, 8] n (fun gh s t wr => ∃ (a b : Nat) (L1 : List Spn), a + gh = n ∧ b = a + C ∧ s = .int .i64 a ∧ t = .int .i64 b ∧ L1.length = n ∧ wr.ownsRow base 37 8 (.slice (some ⟨g, 0, none⟩) n cap) n (cellsS L1) ∧ Moved 0 n L L1 ∧ Blk C B n a L1 ∧ Kept (fun k => k = g) w wr)
     case atStart => exact ⟨0, C, L3, by omega, by omega, by go_num, rfl, hl3, HO3.out, M3.out, by rw [← HC.out]; exact B3.out.start, K3.out⟩
     case round =>
      obtain ⟨a, b, L4, hg, hb, rfl, rfl, hl4, ho4, mv4, bl4, k4⟩ := hrel
      have HGa := Lib.hid hg; have HB := Lib.hid hb; have HO4 := Lib.hid ho4; have M4 := Lib.hid mv4; have B4 := Lib.hid bl4; have K4 := Lib.hid k4
      have han : a ≤ n := by omega
      have hbn2 : b ≤ n + 2000 := by omega
      obtain ⟨m, hm⟩ : ∃ m, a + B = m := ⟨_, rfl⟩
      have e4 : IntKind.i64.wrap ((a : Int) + (B : Int)) = (m : Int) := by rw [show (a : Int) + (B : Int) = (m : Int) by omega]; exact IntWalk.i64_in _ (by omega)
      have HM := Lib.hid hm
      have ham : a < m := by omega
      have hmn2 : m ≤ n + 2000 := by omega
      clear hg hb ho4 mv4 bl4 k4 hm
      have hb0 := K4.out.cell HK0.out hne
      by_cases hbn : b ≤ n
      ·have e5 : (b : Int) ≤ (n : Int) := by omega
       have e6 : IntKind.i64.wrap ((b : Int) + (C : Int)) = ((b + C : Nat) : Int) := by rw [show (b : Int) + (C : Int) = ((b + C : Nat) : Int) by omega]; exact IntWalk.i64_in _ (by omega)
       have hmb : m < b := by have := HM.out; have := HB.out; omega
       have HH := Lib.hid ((HC.out ▸ B4.out : Blk (2 * B) B n a L4).halves (e := b) (by have := HM.out; omega) hbn (by have := HC.out; have := HB.out; omega))
       rw [HM.out] at HH
       go_wp2_with fail
       refine (sym_any _ a m b rfl HO4.out hl4 ham hmb hbn hn hb0 hne HH.out.1 HH.out.2).mono ?_
       rintro e w5 ⟨rfl, L5, o5, mv5, so5, k5⟩
       have O5 := Lib.hid o5; have MV5 := Lib.hid mv5; have SO5 := Lib.hid so5; have K5 := Lib.hid (K4.out.trans k5 (fun _ _ h => h) (fun _ _ h => h) : Kept (fun k => k = g) w w5)
       clear o5 mv5 so5 k5
       go_wp2
       go_roundg (n - b)
       case measure => have := HGa.out; have := HB.out; omega
       case rel => 
        have hb2 := HB.out
        exact ⟨b, b + C, L5, by omega, rfl, rfl, by go_num, MV5.out.len.trans hl4, O5.out, M4.out.trans (MV5.out.wider (Nat.zero_le _) hbn), by
         have hc := HC.out
         subst hc
         have h := B4.out.next (L' := L5) (by rw [← hb2]; exact MV5.out) (by rw [← hb2]; exact SO5.out) hB
         rw [← hb2] at h; exact h, K5.out⟩
      ·have e5 : ¬ (b : Int) ≤ (n : Int) := by omega
       by_cases hmn : m < n
       ·have e7 : (m : Int) < (n : Int) := by omega
        have HH := Lib.hid ((HC.out ▸ B4.out : Blk (2 * B) B n a L4).halves (e := n) (by have := HM.out; omega) (Nat.le_refl _) (by have := HC.out; have := HB.out; omega))
        rw [HM.out] at HH
        go_wp2_with fail
        refine (sym_any _ a m n rfl HO4.out hl4 ham hmn (Nat.le_refl _) hn hb0 hne HH.out.1 HH.out.2).mono ?_
        rintro e w5 ⟨rfl, L5, o5, mv5, so5, k5⟩
        have O5 := Lib.hid o5; have MV5 := Lib.hid mv5; have SO5 := Lib.hid so5; have K5 := Lib.hid (K4.out.trans k5 (fun _ _ h => h) (fun _ _ h => h) : Kept (fun k => k = g) w w5)
        clear o5 mv5 so5 k5
        go_wp2
        go_roundg (n - C)
        case measure => have := HG.out; omega
        case rel => exact ⟨C, L5, rfl, by omega, hC2, by go_num, MV5.out.len.trans hl4, O5.out, M4.out.trans (MV5.out.wider (Nat.zero_le _) (Nat.le_refl _)), by
         have hc := HC.out
         subst hc
         exact B4.out.done (by have := HB.out; omega) MV5.out SO5.out, K5.out⟩
       ·have e7 : ¬ (m : Int) < (n : Int) := by omega
        go_wp2
        go_roundg (n - C)
        case measure => have := HG.out; omega
        case rel => exact ⟨C, L4, rfl, by omega, hC2, by go_num, hl4, HO4.out, M4.out, by
         have hc := HC.out
         subst hc
         exact B4.out.done (by have := HB.out; omega) (Moved.refl _ _ _) (B4.out.last (by have := HM.out; omega)), K4.out⟩
    ·have e1 : ¬ (B : Int) < (n : Int) := by omega
     go_wp2
     go_end0
     exact ⟨rfl, L3, HO3.out, M3.out, B3.out.all (by omega), K3.out⟩

set_option maxHeartbeats 2000000 in
theorem tsort_any {w : World} {base g n cap bk : Nat} {L : List Spn} (ho : w.ownsRow base 37 8 (.slice (some ⟨g, 0, none⟩) n cap) n (cellsS L)) (hl : L.length = n) (hn : n ≤ 1000) (hk : w.cell? ⟨bk, 0, none⟩ = some (.func (.func 73) #[] #[])) (hne : bk ≠ g) :
  Calls Try.prog 85 #[.slice (some ⟨g, 0, none⟩) n cap, cmpV bk] w fun e w' => e = .returned (.tuple #[]) ∧ ∃ L', w'.ownsRow base 37 8 (.slice (some ⟨g, 0, none⟩) n cap) n (cellsS L') ∧ Moved 0 n L L' ∧ SortedOn L' 0 n ∧ Kept (fun k => k = g) w w' := by
 have HO0 := Lib.hid ho
 clear ho
 go_enter Try.func85, Try.ntmps85
 go_wp2_with fail
 refine (stable_any HO0.out hl hn hk hne).mono ?_
 rintro e w5 ⟨rfl, L5, o5, mv5, so5, k5⟩
 have O5 := Lib.hid o5; have K5 := Lib.hid k5
 clear o5 k5
 go_wp2
 go_end0
 exact ⟨rfl, L5, O5.out, mv5, so5, K5.out⟩
end Go.Proofs.Ytibakmchgppndaa
