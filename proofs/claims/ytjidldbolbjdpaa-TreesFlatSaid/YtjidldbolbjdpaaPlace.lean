/- slices.BinarySearchFunc over spans by ID; (*wood).place. -/
import Derived.Test.YtjidldbolbjdpaaKeep
namespace Go.Proofs.Ytjidldbolbjdpaa
open Go.RowKit

theorem ReadsS.range {w : World} {R : List Spn} {g o : Nat} (hc : ∀ j u, (cellsS R)[j]? = some u → w.cell? ⟨g, o + j, none⟩ = some u) {i : Nat} {m : Spn} (hm : R[i]? = some m) : w.rangeAt g (o + i * 8) m.cells := by
  intro j u hj
  have hl : j < 8 := by have := (List.getElem?_eq_some_iff.1 hj).1; simpa [Spn.cells] using this
  have := hc _ u ((cellsS_at R i m hm j hl).trans hj)
  rwa [← Nat.add_assoc] at this
theorem rise_nth {R : List Spn} (h : Rise R) {i j : Nat} (hij : i < j) (hj : j < R.length) : (nth R i).id < (nth R j).id := by
  have h1 := List.pairwise_iff_getElem.1 h i j (by omega) hj hij
  have e1 := nth_get (l := R) (k := i) (by omega)
  have e2 := nth_get hj
  rw [List.getElem?_eq_getElem (by omega)] at e1
  rw [List.getElem?_eq_getElem hj] at e2
  rw [← Option.some.inj e1, ← Option.some.inj e2]; exact h1
theorem idcmp_any (x : Spn) (n : Int) (w : World) :
    Calls Try.prog 47 #[.agg x.cells.toArray, .int .i64 n] w fun e w' => e = .returned (.int .i64 (cmpI x.id n)) ∧ Kept (fun _ => False) w w' := by
  show Calls Try.prog 47 #[.agg #[.int .i64 x.tr, .int .i64 x.id, .int .i64 x.pa, .string x.se, .string x.ho, .int .i64 x.st, .int .i64 x.du, .string x.no], .int .i64 n] w _
  go_enter Try.func47, Try.ntmps47
  go_wp2_with (go_at_call 43; refine (cmp_int _ _ _).mono ?_; rintro e w' ⟨rfl, rfl⟩)
  go_ret
  exact ⟨rfl, (Kept.refl _ w).alloc _⟩
/-- The place of an ID: how many are less, and whether the next one has it. -/
structure Found (R : List Spn) (n : Int) (k : Nat) : Prop where
  le : k ≤ R.length
  lo : ∀ t, t < k → (nth R t).id < n
  hi : ∀ t, k ≤ t → t < R.length → n ≤ (nth R t).id
set_option maxHeartbeats 4000000 in
set_option maxRecDepth 100000 in
theorem search_any (w : World) (v : Value) (R : List Spn) (n : Int) (h : ReadsS w v R) (hl : R.length ≤ 1000) (hr : Rise R) :
    Calls Try.prog 46 #[v, .int .i64 n, .func (.func 47) #[] #[]] w fun e w' => ∃ k, Found R n k ∧ e = .returned (.tuple #[.int .i64 k, .bool (decide (k < R.length ∧ (nth R k).id = n))]) ∧ Kept (fun _ => False) w w' := by
  obtain ⟨ao, cap, rfl, h⟩ := h
  by_cases hne : R = []
  · subst hne
    have D := Lib.hid (show Found [] n 0 from ⟨Nat.le_refl _, fun t h => by omega, fun t _ h => by simp at h⟩)
    go_enter Try.func46, Try.ntmps46
    go_wp2
    go_loopg [9, 10] 1 (fun gh s t wr => s = .int .i64 0 ∧ t = .int .i64 0 ∧ Kept (fun _ => False) w wr)
    case atStart => exact ⟨by go_num, by go_num, Kept.refl _ _⟩
    case round =>
      obtain ⟨rfl, rfl, kw⟩ := hrel
      have KW := Lib.hid kw; clear kw
      go_wp2
      refine bodyPost_ret (v := _) (by simp [results, Try.results46, go_sem]; try rfl) rfl ?_
      exact ⟨0, D.out, by simp, KW.out⟩
  · obtain ⟨g, o, rfl, hc⟩ : ∃ g o, ao = some ⟨g, o, none⟩ ∧ ∀ j u, (cellsS R)[j]? = some u → w.cell? ⟨g, o + j, none⟩ = some u := by
      rcases h with h | h
      · exact absurd h hne
      · exact h
    have HC := Lib.hid hc; have HR := Lib.hid hr
    obtain ⟨len, hlen⟩ : ∃ n, R.length = n := ⟨_, rfl⟩
    have HL := Lib.hid hlen
    have hpos : 0 < len := by rw [← hlen]; exact List.length_pos_iff.2 hne
    rw [hlen] at hl ⊢
    clear h hc hr hne hlen
    go_enter Try.func46, Try.ntmps46
    go_wp2
    go_loopg [9, 10] len (fun gh s t wr => ∃ (i j : Nat), i + gh = j ∧ j ≤ len ∧ s = .int .i64 i ∧ t = .int .i64 j ∧ (∀ k, k < i → (nth R k).id < n) ∧ (∀ k, j ≤ k → k < len → n ≤ (nth R k).id) ∧ Kept (fun _ => False) w wr)
    case atStart => exact ⟨0, len, by omega, Nat.le_refl _, by go_num, rfl, fun k h => by omega, fun k h1 h2 => by omega, Kept.refl _ _⟩
    case round =>
      obtain ⟨i, j, hg, hj, rfl, rfl, lo, hi, kw⟩ := hrel
      have HG := Lib.hid hg; have LO := Lib.hid lo; have HI := Lib.hid hi; have KW := Lib.hid kw
      clear hg lo hi kw
      by_cases hij : i < j
      · have i0 : (i : Int) < (j : Int) := by omega
        obtain ⟨u, hu⟩ : ∃ u, i + j = u := ⟨_, rfl⟩
        have e2 : IntKind.i64.wrap ((i : Int) + (j : Int)) = (u : Int) := by rw [show (i : Int) + (j : Int) = (u : Int) by omega]; exact IntWalk.i64_in _ (by omega)
        obtain ⟨q, hq⟩ : ∃ q, u / 2 = q := ⟨_, rfl⟩
        have hul : u ≤ 2000 := by omega
        have e3 : (u : Int) / 2 = (q : Int) := by omega
        have hb1 : i ≤ q := by omega
        have hb2 : q < j := by omega
        clear hu hq
        obtain ⟨y, hy⟩ : ∃ y, nth R q = y := ⟨_, rfl⟩
        have gy := nth_get (l := R) (k := q) (by have := HL.out; omega)
        rw [hy] at gy
        have HY := Lib.hid hy
        have ry := ReadsS.range (fun j u hu => KW.out.cell (HC.out j u hu) (fun f => f)) gy
        have i1 : (0 : Int) ≤ (q : Int) := by omega
        have i2 : (q : Int) < (len : Int) := by omega
        clear hy gy
        by_cases hlt : y.id < n
        · have ec : cmpI y.id n < 0 := by unfold cmpI; rw [if_pos hlt]; omega
          have ed : decide (cmpI y.id n < 0) = true := by simp [ec]
          go_wp2_with (first | (refine wpList_load_mid (by rfl) 24 _ (by rfl) g (o + q * 8) (by rfl) y.cells _ ry Try.underlying24 rfl info24 ?_) | (go_at_call 47; refine (idcmp_any y n _).mono ?_; rintro e w5 ⟨rfl, k5⟩; have K5 := Lib.hid k5; clear k5))
          go_roundg (j - (q + 1))
          case measure => have := HG.out; omega
          case rel => exact ⟨q + 1, j, by omega, hj, by go_num, rfl, fun k k1 => by 
            by_cases c : k = q
            · subst c; rw [HY.out]; exact hlt
            · have := rise_nth HR.out (i := k) (j := q) (by omega) (by have := HL.out; omega); rw [HY.out] at this; omega, HI.out, keptFF KW.out K5.out⟩
        · have ec : ¬ cmpI y.id n < 0 := by unfold cmpI; rw [if_neg hlt]; split <;> omega
          have ed : decide (cmpI y.id n < 0) = false := by simp; omega
          go_wp2_with (first | (refine wpList_load_mid (by rfl) 24 _ (by rfl) g (o + q * 8) (by rfl) y.cells _ ry Try.underlying24 rfl info24 ?_) | (go_at_call 47; refine (idcmp_any y n _).mono ?_; rintro e w5 ⟨rfl, k5⟩; have K5 := Lib.hid k5; clear k5))
          go_roundg (q - i)
          case measure => have := HG.out; omega
          case rel => exact ⟨i, q, by omega, by omega, rfl, rfl, LO.out, fun k k1 k2 => by
            by_cases c : k = q
            · subst c; rw [HY.out]; omega
            · have := rise_nth HR.out (i := q) (j := k) (by omega) (by have := HL.out; omega); rw [HY.out] at this; omega, keptFF KW.out K5.out⟩
      · have i0 : ¬ (i : Int) < (j : Int) := by omega
        have FD := Lib.hid (show Found R n i from ⟨by have := HL.out; have := HG.out; omega, LO.out, fun t t1 t2 => HI.out t (by have := HG.out; omega) (by have := HL.out; omega)⟩)
        by_cases hin : i < len
        · have i1 : (i : Int) < (len : Int) := by omega
          have i2 : (0 : Int) ≤ (i : Int) := by omega
          have d1 : decide ((i : Int) < (len : Int)) = true := by simp [hin]
          obtain ⟨y, hy⟩ : ∃ y, nth R i = y := ⟨_, rfl⟩
          have gy := nth_get (l := R) (k := i) (by have := HL.out; omega)
          rw [hy] at gy
          obtain ⟨c0, c1, c2, c3, c4, c5, c6, c7⟩ := ReadsS.at (fun j u hu => KW.out.cell (HC.out j u hu) (fun f => f)) gy
          have HY := Lib.hid hy
          clear hy gy
          go_wp2_with (go_at_call 47; refine (idcmp_any y n _).mono ?_; rintro e w5 ⟨rfl, k5⟩; have K5 := Lib.hid k5; clear k5)
          refine bodyPost_ret (v := _) (by simp [results, Try.results46, go_sem]; try rfl) rfl ?_
          refine ⟨i, FD.out, ?_, keptFF KW.out K5.out⟩
          have hcz : cmpI y.id n = 0 ↔ y.id = n := by unfold cmpI; split <;> (try split) <;> omega
          by_cases hz : y.id = n
          · have h0 := hcz.2 hz
            rw [hz] at h0
            simp [HY.out, hin, h0, hz]
          · have h0 : (cmpI y.id n == 0) = false := by simpa using fun e => hz (hcz.1 e)
            simp [HY.out, hin, h0, hz]
        · have i1 : ¬ (i : Int) < (len : Int) := by omega
          have d1 : decide ((i : Int) < (len : Int)) = false := by simp; omega
          go_wp2
          refine bodyPost_ret (v := _) (by simp [results, Try.results46, go_sem]; try rfl) rfl ?_
          exact ⟨i, FD.out, by simp [hin], KW.out⟩
/-- The place of an ID, if one has it. -/
def plF (R : List Spn) (n : Int) : Option Nat := if n = 0 then none else R.findIdx? (fun x => x.id == n)
def pInt : Option Nat → Int
  | none => -1
  | some k => k
theorem plF_zero (R : List Spn) : plF R 0 = none := rfl
theorem plF_some {R : List Spn} {n : Int} {k : Nat} (hr : Rise R) (hn : n ≠ 0) (hk : k < R.length) (h : (nth R k).id = n) : plF R n = some k := by
  unfold plF
  rw [if_neg hn, List.findIdx?_eq_some_iff_getElem]
  have e : ∀ i (hi : i < R.length), R[i] = nth R i := fun i hi => by
    have h2 := nth_get hi
    rw [List.getElem?_eq_getElem hi] at h2
    exact Option.some.inj h2
  refine ⟨hk, by rw [e]; simpa using h, fun j hj => ?_⟩
  rw [e]
  have := rise_nth hr hj hk
  simp; omega
theorem plF_none {R : List Spn} {n : Int} (h : ∀ k, k < R.length → (nth R k).id ≠ n) : plF R n = none := by
  unfold plF
  split
  · rfl
  · rw [List.findIdx?_eq_none_iff]
    intro x hx
    obtain ⟨i, hi, rfl⟩ := List.getElem_of_mem hx
    have h2 := nth_get hi
    rw [List.getElem?_eq_getElem hi] at h2
    have := h i hi
    rw [← Option.some.inj h2] at this
    simpa using this
theorem plF_spec {R : List Spn} {n : Int} {k : Nat} (h : plF R n = some k) : k < R.length ∧ (nth R k).id = n ∧ n ≠ 0 := by
  unfold plF at h
  split at h
  · cases h
  · rename_i hn
    rw [List.findIdx?_eq_some_iff_getElem] at h
    obtain ⟨hk, h1, _⟩ := h
    have h2 := nth_get hk
    rw [List.getElem?_eq_getElem hk] at h2
    refine ⟨hk, ?_, hn⟩
    rw [← Option.some.inj h2]; simpa using h1
theorem Found.place {R : List Spn} {n : Int} {k : Nat} (h : Found R n k) (hr : Rise R) : plF R n = if k < R.length ∧ (nth R k).id = n ∧ n ≠ 0 then some k else none := by
  by_cases hn : n = 0
  · subst hn; rw [if_neg (by simp)]; rfl
  · by_cases hc : k < R.length ∧ (nth R k).id = n
    · rw [if_pos ⟨hc.1, hc.2, hn⟩]; exact plF_some hr hn hc.1 hc.2
    · rw [if_neg (fun x => hc ⟨x.1, x.2.1⟩)]
      refine plF_none (fun t ht e => ?_)
      by_cases c1 : t < k
      · have := h.lo t c1; omega
      · by_cases c2 : t = k
        · subst c2; exact hc ⟨ht, e⟩
        · have h1 := h.hi k (Nat.le_refl _) (by omega)
          have h2 := rise_nth hr (i := k) (j := t) (by omega) ht
          omega
set_option maxHeartbeats 4000000 in
theorem place_any (w : World) (wb : Nat) (v : Value) (R : List Spn) (n : Int) (hb : w.cell? ⟨wb, 0, none⟩ = some v) (h : ReadsS w v R) (hl : R.length ≤ 1000) (hr : Rise R) :
    Calls Try.prog 34 #[.pointer (some ⟨wb, 0, none⟩), .int .i64 n] w fun e w' => e = .returned (.int .i64 (pInt (plF R n))) ∧ Kept (fun _ => False) w w' := by
  have HR := Lib.hid h; have RI := Lib.hid hr
  clear h hr
  go_enter Try.func34, Try.ntmps34
  go_wp2_with fail
  refine (search_any _ v R n HR.out hl RI.out).mono ?_
  rintro e w5 ⟨k, fd, rfl, k5⟩
  have K5 := Lib.hid k5; have PL := Lib.hid (fd.place RI.out)
  clear k5 fd
  by_cases hc : k < R.length ∧ (nth R k).id = n
  · have hd : decide (k < R.length ∧ (nth R k).id = n) = true := decide_eq_true hc
    rw [hd]
    by_cases hn : n = 0
    · have hq : (n == 0) = true := by simp [hn]
      have HE := Lib.hid (show plF R n = none by rw [PL.out, if_neg (by simp [hn])])
      clear hc hd hn
      go_wp2
      go_ret
      rw [HE.out]
      exact ⟨rfl, K5.out⟩
    · have hq : (n == 0) = false := by simp [hn]
      have HE := Lib.hid (show plF R n = some k by rw [PL.out, if_pos ⟨hc.1, hc.2, hn⟩])
      clear hc hd hn
      go_wp2
      go_ret
      rw [HE.out]
      exact ⟨rfl, K5.out⟩
  · have hd : decide (k < R.length ∧ (nth R k).id = n) = false := decide_eq_false hc
    rw [hd]
    have HE := Lib.hid (show plF R n = none by rw [PL.out, if_neg (fun x => hc ⟨x.1, x.2.1⟩)])
    clear hc hd
    go_wp2
    go_ret
    rw [HE.out]
    exact ⟨rfl, K5.out⟩
end Go.Proofs.Ytjidldbolbjdpaa
