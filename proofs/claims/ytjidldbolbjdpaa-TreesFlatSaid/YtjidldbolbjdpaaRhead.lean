/- spoorref14.parent, head. -/
import Derived.Test.YtjidldbolbjdpaaCounted
namespace Go.Proofs.Ytjidldbolbjdpaa
open Go.RowKit

set_option maxHeartbeats 4000000 in
set_option maxRecDepth 100000 in
theorem rparent_any (w : World) (v : Value) (R : List Spn) (i : Nat) (h : ReadsS w v R) (hl : R.length ≤ 1000) (hr : Rise R) (hi : i < R.length) :
    Calls Try.prog 36 #[v, .int .i64 i] w fun e w' => e = .returned (.int .i64 (pInt (pF R i))) ∧ Kept (fun _ => False) w w' := by
  obtain ⟨ao, cap, rfl, rd⟩ := h
  obtain ⟨g, o, rfl, hc⟩ : ∃ g o, ao = some ⟨g, o, none⟩ ∧ ∀ j u, (cellsS R)[j]? = some u → w.cell? ⟨g, o + j, none⟩ = some u := by
    rcases rd with h | h
    · subst h; simp at hi
    · exact h
  obtain ⟨n, hn⟩ : ∃ n, R.length = n := ⟨_, rfl⟩
  obtain ⟨y, hy⟩ : ∃ y, nth R i = y := ⟨_, rfl⟩
  have gy := nth_get hi
  rw [hy] at gy
  have CS := Lib.hid (ReadsS.at hc gy).2.2.1
  have cs0 := (ReadsS.at hc gy).2.2.1
  rw [hn] at hl hi ⊢
  have i0 : (0 : Int) ≤ (i : Int) := by omega
  have i1 : (i : Int) < (n : Int) := by omega
  have HN := Lib.hid hn; have HY := Lib.hid hy; have HC := Lib.hid hc; have RI := Lib.hid hr
  clear rd hn hy gy hc hr
  by_cases hz : y.pa = 0
  · have z1 : (y.pa == 0) = true := by simp [hz]
    have PP := Lib.hid (show pF R i = none from by rw [pF, HY.out, hz]; rfl)
    clear hz
    go_enter Try.func36, Try.ntmps36
    go_wp2
    go_ret
    exact ⟨by rw [PP.out]; rfl, Kept.refl _ _⟩
  · have z1 : (y.pa == 0) = false := by simp [hz]
    have HZ := Lib.hid hz
    clear hz
    go_enter Try.func36, Try.ntmps36
    go_wp2
    clear cs0
    go_loopg [5] n (fun ghv s wr => ∃ (k : Nat), k + ghv = n ∧ s = .int .i64 k ∧ (∀ t, t < k → (nth R t).id ≠ y.pa) ∧ Kept (fun _ => False) w wr)
    case atStart => exact ⟨0, by omega, by go_num, fun t h => by omega, Kept.refl _ _⟩
    case round =>
      obtain ⟨k, hg1, rfl, hno, hk⟩ := hrel
      have G1 := Lib.hid hg1; have NO := Lib.hid hno; have KK := Lib.hid hk
      clear hg1 hno hk
      by_cases hkn : k < n
      · have k0 : (k : Int) < (n : Int) := by omega
        have k1 : (0 : Int) ≤ (k : Int) := by omega
        have e1 : IntKind.i64.wrap ((k : Int) + 1) = ((k + 1 : Nat) : Int) := IntWalk.i64_in _ (by omega)
        have cs := KK.out.cell CS.out (fun f => f)
        obtain ⟨x, hx⟩ : ∃ x, nth R k = x := ⟨_, rfl⟩
        have gx := nth_get (l := R) (k := k) (by rw [HN.out]; exact hkn)
        rw [hx] at gx
        have cl := KK.out.cell (ReadsS.at HC.out gx).2.1 (fun f => f)
        have HX := Lib.hid hx
        clear hx gx
        by_cases hid : x.id = y.pa
        · have d1 : (x.id == y.pa) = true := by simp [hid]
          have PP := Lib.hid (show pF R i = some k from by rw [pF, HY.out]; exact plF_some RI.out HZ.out (by rw [HN.out]; exact hkn) (by rw [HX.out]; exact hid))
          clear hid
          go_wp2
          refine wp_region_held_drew (S := (fun w' => w'.cell? ⟨g, o + k * 8 + 1, none⟩ = some (.int .i64 x.id) ∧ w'.cell? ⟨g, o + i * 8 + 2, none⟩ = some (.int .i64 y.pa))) (by kernel_rfl) ?_ (fun hHeld => ?_)
          · exact ⟨cl, cs⟩
          refine wpAnyH_take (i := 0) (v := ?_) opAt0 (by kernel_rfl) (by kernel_rfl) (by kernel_rfl) (fun _ _ _ h => h) (Or.inl ⟨by rfl, ?_⟩) hHeld ?_
          case refine_2 => (intro w hSw; (try dsimp only at hSw); go_simp; all_goals (with_reducible rfl))
          (try simp only [Act.put]); (try simp only [List.setIfInBounds_toArray]); (try simp only [List.set_cons_succ]); (try simp only [List.set_cons_zero])
          refine wpAnyH_take (i := 1) (v := ?_) opAt1 (by kernel_rfl) (by kernel_rfl) (by kernel_rfl) (fun _ _ _ h => h) (Or.inl ⟨by rfl, ?_⟩) hHeld ?_
          case refine_2 => (intro w hSw; (try dsimp only at hSw); go_simp; all_goals (with_reducible rfl))
          (try simp only [Act.put]); (try simp only [List.setIfInBounds_toArray]); (try simp only [List.set_cons_succ]); (try simp only [List.set_cons_zero])
          refine wpAnyH_take (i := 2) (v := ?_) opAt2 (by kernel_rfl) (by kernel_rfl) (by kernel_rfl) (fun _ _ _ h => h) (Or.inl ⟨by rfl, ?_⟩) hHeld ?_
          case refine_2 => (intro w hSw; (try dsimp only at hSw); go_simp; all_goals (with_reducible rfl))
          (try simp only [Act.put]); (try simp only [List.setIfInBounds_toArray]); (try simp only [List.set_cons_succ]); (try simp only [List.set_cons_zero])
          refine wpAnyH_take (i := 3) (v := ?_) opAt3 (by kernel_rfl) (by kernel_rfl) (by kernel_rfl) (fun _ _ _ h => h) (Or.inl ⟨by rfl, ?_⟩) hHeld ?_
          case refine_2 => (intro w hSw; (try dsimp only at hSw); go_simp; all_goals (with_reducible rfl))
          (try simp only [Act.put]); (try simp only [List.setIfInBounds_toArray]); (try simp only [List.set_cons_succ]); (try simp only [List.set_cons_zero])
          refine wpAnyH_take (i := 4) (v := ?_) opAt4 (by kernel_rfl) (by kernel_rfl) (by kernel_rfl) (fun _ _ _ h => h) (Or.inl ⟨by rfl, ?_⟩) hHeld ?_
          case refine_2 => (intro w hSw; (try dsimp only at hSw); go_simp; all_goals (with_reducible rfl))
          (try simp only [Act.put]); (try simp only [List.setIfInBounds_toArray]); (try simp only [List.set_cons_succ]); (try simp only [List.set_cons_zero])
          refine wpAnyH_take (i := 5) (v := ?_) opAt5 (by kernel_rfl) (by kernel_rfl) (by kernel_rfl) (fun _ _ _ h => h) (Or.inl ⟨by rfl, ?_⟩) hHeld ?_
          case refine_2 => (intro w hSw; (try dsimp only at hSw); go_simp; all_goals (with_reducible rfl))
          (try simp only [Act.put]); (try simp only [List.setIfInBounds_toArray]); (try simp only [List.set_cons_succ]); (try simp only [List.set_cons_zero])
          refine wpAnyH_take (i := 6) (v := ?_) opAt6 (by kernel_rfl) (by kernel_rfl) (by kernel_rfl) (fun _ _ _ h => h) (Or.inl ⟨by rfl, ?_⟩) hHeld ?_
          case refine_2 => (intro w hSw; (try dsimp only at hSw); go_simp; all_goals (with_reducible rfl))
          (try simp only [Act.put]); (try simp only [List.setIfInBounds_toArray]); (try simp only [List.set_cons_succ]); (try simp only [List.set_cons_zero])
          refine wpAnyH_take (i := 7) (v := ?_) opAt7 (by kernel_rfl) (by kernel_rfl) (by kernel_rfl) (fun _ _ _ h => h) (Or.inl ⟨by rfl, ?_⟩) hHeld ?_
          case refine_2 => (intro w hSw; (try dsimp only at hSw); go_simp; all_goals (with_reducible rfl))
          (try simp only [Act.put]); (try simp only [List.setIfInBounds_toArray]); (try simp only [List.set_cons_succ]); (try simp only [List.set_cons_zero])
          refine wpAnyH_take (i := 8) (v := ?_) opAt8 (by kernel_rfl) (by kernel_rfl) (by kernel_rfl) (fun _ _ _ h => h) (Or.inl ⟨by rfl, ?_⟩) hHeld ?_
          case refine_2 => (intro w hSw; (try dsimp only at hSw); go_simp; all_goals (with_reducible rfl))
          (try simp only [Act.put]); (try simp only [List.setIfInBounds_toArray]); (try simp only [List.set_cons_succ]); (try simp only [List.set_cons_zero])
          refine wpAnyH_take (i := 9) (v := ?_) opAt9 (by kernel_rfl) (by kernel_rfl) (by kernel_rfl) (fun _ _ _ h => h) (Or.inl ⟨by rfl, ?_⟩) hHeld ?_
          case refine_2 => (intro w hSw; (try dsimp only at hSw); go_simp; all_goals (with_reducible rfl))
          (try simp only [Act.put]); (try simp only [List.setIfInBounds_toArray]); (try simp only [List.set_cons_succ]); (try simp only [List.set_cons_zero])
          refine wpAnyH_take (i := 10) (v := ?_) opAt10 (by kernel_rfl) (by kernel_rfl) (by kernel_rfl) (fun _ _ _ h => h) (Or.inl ⟨by rfl, ?_⟩) hHeld ?_
          case refine_2 => (intro w hSw; (try dsimp only at hSw); go_simp; all_goals (with_reducible rfl))
          (try simp only [Act.put]); (try simp only [List.setIfInBounds_toArray]); (try simp only [List.set_cons_succ]); (try simp only [List.set_cons_zero])
          refine wpAnyH_done (by kernel_rfl) ?_ _
          go_wp2
          go_ret
          exact ⟨by rw [PP.out]; rfl, KK.out.drew⟩
        · have d1 : (x.id == y.pa) = false := by simp [hid]
          have HID := Lib.hid hid
          clear hid
          go_wp2
          refine wp_region_held_drew (S := (fun w' => w'.cell? ⟨g, o + k * 8 + 1, none⟩ = some (.int .i64 x.id) ∧ w'.cell? ⟨g, o + i * 8 + 2, none⟩ = some (.int .i64 y.pa))) (by kernel_rfl) ?_ (fun hHeld => ?_)
          · exact ⟨cl, cs⟩
          refine wpAnyH_take (i := 0) (v := ?_) opAt0 (by kernel_rfl) (by kernel_rfl) (by kernel_rfl) (fun _ _ _ h => h) (Or.inl ⟨by rfl, ?_⟩) hHeld ?_
          case refine_2 => (intro w hSw; (try dsimp only at hSw); go_simp; all_goals (with_reducible rfl))
          (try simp only [Act.put]); (try simp only [List.setIfInBounds_toArray]); (try simp only [List.set_cons_succ]); (try simp only [List.set_cons_zero])
          refine wpAnyH_take (i := 1) (v := ?_) opAt1 (by kernel_rfl) (by kernel_rfl) (by kernel_rfl) (fun _ _ _ h => h) (Or.inl ⟨by rfl, ?_⟩) hHeld ?_
          case refine_2 => (intro w hSw; (try dsimp only at hSw); go_simp; all_goals (with_reducible rfl))
          (try simp only [Act.put]); (try simp only [List.setIfInBounds_toArray]); (try simp only [List.set_cons_succ]); (try simp only [List.set_cons_zero])
          refine wpAnyH_take (i := 2) (v := ?_) opAt2 (by kernel_rfl) (by kernel_rfl) (by kernel_rfl) (fun _ _ _ h => h) (Or.inl ⟨by rfl, ?_⟩) hHeld ?_
          case refine_2 => (intro w hSw; (try dsimp only at hSw); go_simp; all_goals (with_reducible rfl))
          (try simp only [Act.put]); (try simp only [List.setIfInBounds_toArray]); (try simp only [List.set_cons_succ]); (try simp only [List.set_cons_zero])
          refine wpAnyH_take (i := 3) (v := ?_) opAt3 (by kernel_rfl) (by kernel_rfl) (by kernel_rfl) (fun _ _ _ h => h) (Or.inl ⟨by rfl, ?_⟩) hHeld ?_
          case refine_2 => (intro w hSw; (try dsimp only at hSw); go_simp; all_goals (with_reducible rfl))
          (try simp only [Act.put]); (try simp only [List.setIfInBounds_toArray]); (try simp only [List.set_cons_succ]); (try simp only [List.set_cons_zero])
          refine wpAnyH_take (i := 4) (v := ?_) opAt4 (by kernel_rfl) (by kernel_rfl) (by kernel_rfl) (fun _ _ _ h => h) (Or.inl ⟨by rfl, ?_⟩) hHeld ?_
          case refine_2 => (intro w hSw; (try dsimp only at hSw); go_simp; all_goals (with_reducible rfl))
          (try simp only [Act.put]); (try simp only [List.setIfInBounds_toArray]); (try simp only [List.set_cons_succ]); (try simp only [List.set_cons_zero])
          refine wpAnyH_take (i := 5) (v := ?_) opAt5 (by kernel_rfl) (by kernel_rfl) (by kernel_rfl) (fun _ _ _ h => h) (Or.inl ⟨by rfl, ?_⟩) hHeld ?_
          case refine_2 => (intro w hSw; (try dsimp only at hSw); go_simp; all_goals (with_reducible rfl))
          (try simp only [Act.put]); (try simp only [List.setIfInBounds_toArray]); (try simp only [List.set_cons_succ]); (try simp only [List.set_cons_zero])
          refine wpAnyH_take (i := 6) (v := ?_) opAt6 (by kernel_rfl) (by kernel_rfl) (by kernel_rfl) (fun _ _ _ h => h) (Or.inl ⟨by rfl, ?_⟩) hHeld ?_
          case refine_2 => (intro w hSw; (try dsimp only at hSw); go_simp; all_goals (with_reducible rfl))
          (try simp only [Act.put]); (try simp only [List.setIfInBounds_toArray]); (try simp only [List.set_cons_succ]); (try simp only [List.set_cons_zero])
          refine wpAnyH_take (i := 7) (v := ?_) opAt7 (by kernel_rfl) (by kernel_rfl) (by kernel_rfl) (fun _ _ _ h => h) (Or.inl ⟨by rfl, ?_⟩) hHeld ?_
          case refine_2 => (intro w hSw; (try dsimp only at hSw); go_simp; all_goals (with_reducible rfl))
          (try simp only [Act.put]); (try simp only [List.setIfInBounds_toArray]); (try simp only [List.set_cons_succ]); (try simp only [List.set_cons_zero])
          refine wpAnyH_take (i := 8) (v := ?_) opAt8 (by kernel_rfl) (by kernel_rfl) (by kernel_rfl) (fun _ _ _ h => h) (Or.inl ⟨by rfl, ?_⟩) hHeld ?_
          case refine_2 => (intro w hSw; (try dsimp only at hSw); go_simp; all_goals (with_reducible rfl))
          (try simp only [Act.put]); (try simp only [List.setIfInBounds_toArray]); (try simp only [List.set_cons_succ]); (try simp only [List.set_cons_zero])
          refine wpAnyH_take (i := 9) (v := ?_) opAt9 (by kernel_rfl) (by kernel_rfl) (by kernel_rfl) (fun _ _ _ h => h) (Or.inl ⟨by rfl, ?_⟩) hHeld ?_
          case refine_2 => (intro w hSw; (try dsimp only at hSw); go_simp; all_goals (with_reducible rfl))
          (try simp only [Act.put]); (try simp only [List.setIfInBounds_toArray]); (try simp only [List.set_cons_succ]); (try simp only [List.set_cons_zero])
          refine wpAnyH_take (i := 10) (v := ?_) opAt10 (by kernel_rfl) (by kernel_rfl) (by kernel_rfl) (fun _ _ _ h => h) (Or.inl ⟨by rfl, ?_⟩) hHeld ?_
          case refine_2 => (intro w hSw; (try dsimp only at hSw); go_simp; all_goals (with_reducible rfl))
          (try simp only [Act.put]); (try simp only [List.setIfInBounds_toArray]); (try simp only [List.set_cons_succ]); (try simp only [List.set_cons_zero])
          refine wpAnyH_done (by kernel_rfl) ?_ _
          go_wp2
          go_roundg (n - (k + 1))
          case measure => have := G1.out; omega
          case rel => exact ⟨k + 1, by omega, by go_num, fun t ht => by
            by_cases c : t = k
            · subst c; rw [HX.out]; exact HID.out
            · exact NO.out t (by omega), KK.out.drew⟩
      · have k0 : ¬ (k : Int) < (n : Int) := by omega
        have PP := Lib.hid (show pF R i = none from by rw [pF, HY.out]; exact plF_none (fun t ht => NO.out t (by rw [HN.out] at ht; omega)))
        go_wp2
        go_ret
        exact ⟨by rw [PP.out]; rfl, KK.out⟩
/-- Back at itself, and all between are greater: the least of a cycle. -/
theorem least_of {p : Nat → Option Nat} {c i : Nat} (h0 : 0 < c) (h : it p c i = some i) (hb : ∀ s y, s < c → 0 < s → it p s i = some y → i < y) : Least p i := by
  refine ⟨⟨c, h0, h⟩, fun s => ?_⟩
  induction s using Nat.strongRecOn with
  | _ s ih =>
    intro y hy
    by_cases hs : s < c
    · by_cases z : s = 0
      · subst z; simp [it] at hy; omega
      · have := hb s y hs (by omega) hy; omega
    · refine ih (s - c) (by omega) y ?_
      rw [← it_add' h, show c + (s - c) = s by omega]; exact hy
theorem hdF_least {R : List Spn} {i k : Nat} (h : pF R i = some k) : hdF R i = true ↔ Least (pF R) i := by
  rw [hdF_iff]
  refine ⟨fun h2 => h2.elim (fun l => ?_) id, .inr⟩
  rw [lostF_none l] at h; cases h
theorem hdF_none {R : List Spn} {i : Nat} (h : pF R i = none) : hdF R i = ((nth R i).pa != 0) := by
  have hl : lostF R i = ((nth R i).pa != 0) := by simp [lostF, h, pInt]
  rw [Bool.eq_iff_iff, hdF_iff, hl]
  refine ⟨fun h2 => h2.elim id (fun l => ?_), .inl⟩
  obtain ⟨y, hy⟩ := cyc_some l.1 1
  simp [it, h] at hy
theorem hdF_false {R : List Spn} {i k : Nat} (h : pF R i = some k) (hn : ¬ Least (pF R) i) : hdF R i = false := by
  cases e : hdF R i with
  | false => rfl
  | true => exact absurd ((hdF_least h).1 e) hn

set_option maxHeartbeats 4000000 in
set_option maxRecDepth 100000 in
theorem rhead_any (w : World) (v : Value) (R : List Spn) (i : Nat) (h : ReadsS w v R) (hl : R.length ≤ 1000) (hr : Rise R) (hi : i < R.length) :
    Calls Try.prog 26 #[v, .int .i64 i] w fun e w' => e = .returned (.bool (hdF R i)) ∧ Kept (fun _ => False) w w' := by
  have RD := Lib.hid h; have RI := Lib.hid hr
  obtain ⟨ao, cap, rfl, rd⟩ := h
  obtain ⟨g, o, rfl, hc⟩ : ∃ g o, ao = some ⟨g, o, none⟩ ∧ ∀ j u, (cellsS R)[j]? = some u → w.cell? ⟨g, o + j, none⟩ = some u := by
    rcases rd with h | h
    · subst h; simp at hi
    · exact h
  obtain ⟨n, hn⟩ : ∃ n, R.length = n := ⟨_, rfl⟩
  obtain ⟨y, hy⟩ : ∃ y, nth R i = y := ⟨_, rfl⟩
  have gy := nth_get hi
  rw [hy] at gy
  have CS := Lib.hid (ReadsS.at hc gy).2.2.1
  have HL := Lib.hid hl; have HI := Lib.hid hi
  rw [hn] at hl hi RD ⊢
  have i0 : (0 : Int) ≤ (i : Int) := by omega
  have i1 : (i : Int) < (n : Int) := by omega
  have HN := Lib.hid hn; have HY := Lib.hid hy
  clear rd hn hy gy hc hr
  go_enter Try.func26, Try.ntmps26
  go_wp2_with fail
  refine (rparent_any w _ R i RD.out HL.out RI.out HI.out).mono ?_
  rintro e w1 ⟨rfl, k1⟩
  have K1 := Lib.hid k1
  clear k1
  cases hp : pF R i with
  | none =>
    have HP := Lib.hid (hdF_none hp)
    have cs := K1.out.cell CS.out (fun f => f)
    clear hp
    simp only [pInt]
    go_wp2
    go_ret
    exact ⟨by rw [HP.out, HY.out]; rfl, K1.out⟩
  | some q =>
    have HP := Lib.hid hp
    have HQ := Lib.hid (pF_lt hp)
    clear hp
    have q0 : ¬ (q : Int) < 0 := by omega
    have dq : decide ((q : Int) < 0) = false := by simp
    simp only [pInt]
    go_wp2
    go_loopg [5, 6] n (fun ghv s5 s6 wr => ∃ (m : Nat), m + ghv = n ∧ s6 = .int .i64 m ∧ s5 = .int .i64 (pInt (it (pF R) (m + 1) i)) ∧ (∀ s y, s < m + 1 → 0 < s → it (pF R) s i = some y → i < y) ∧ Kept (fun _ => False) w wr)
    case atStart => exact ⟨0, by omega, by go_num, by simp [it, HP.out, pInt], fun s y h1 h2 => by omega, K1.out⟩
    case round =>
      obtain ⟨m, hg1, rfl, rfl, hb, hk⟩ := hrel
      have G1 := Lib.hid hg1; have HB := Lib.hid hb; have KK := Lib.hid hk
      clear hg1 hb hk
      by_cases hmn : m < n
      · have m0 : (m : Int) < (n : Int) := by omega
        have e1 : IntKind.i64.wrap ((m : Int) + 1) = ((m + 1 : Nat) : Int) := IntWalk.i64_in _ (by omega)
        cases hk : it (pF R) (m + 1) i with
        | none =>
          have FF := Lib.hid (show hdF R i = false from hdF_false HP.out (fun l => by obtain ⟨y, hy⟩ := cyc_some l.1 (m + 1); rw [hk] at hy; cases hy))
          clear hk
          simp only [pInt]
          have d0 : ((-1 : Int) == (i : Int)) = false := by simp
          go_wp2
          go_ret
          exact ⟨by rw [FF.out]; rfl, KK.out⟩
        | some k =>
          have HK := Lib.hid hk
          have HKL := Lib.hid (show k < R.length from it_lt (fun _ _ _ h => pF_lt h) HI.out hk)
          clear hk
          simp only [pInt]
          by_cases c : k = i
          · obtain rfl := c
            have TT := Lib.hid (show hdF R k = true from (hdF_least HP.out).2 (least_of (c := m + 1) (by omega) HK.out HB.out))
            have d0 : ((k : Int) == (k : Int)) = true := by simp
            go_wp2
            go_ret
            exact ⟨by rw [TT.out]; rfl, KK.out⟩
          · have d0 : ((k : Int) == (i : Int)) = false := by simp; omega
            have HC := Lib.hid c
            clear c
            have k0 : ¬ (k : Int) < 0 := by omega
            have dk : decide ((k : Int) < 0) = false := by simp
            by_cases hki : k < i
            · have d1 : decide ((k : Int) < (i : Int)) = true := by simp [hki]
              have FF := Lib.hid (show hdF R i = false from hdF_false HP.out (fun l => by have := l.2 _ _ HK.out; omega))
              go_wp2
              go_ret
              exact ⟨by rw [FF.out]; rfl, KK.out⟩
            · have d1 : decide ((k : Int) < (i : Int)) = false := by simp; omega
              go_wp2_with fail
              refine (rparent_any wr _ R k (RD.out.keptF KK.out) HL.out RI.out HKL.out).mono ?_
              rintro e w5 ⟨rfl, k5⟩
              have K5 := Lib.hid (keptFF KK.out k5)
              clear k5
              go_wp2
              go_roundg (n - (m + 1))
              case measure => have := G1.out; omega
              case rel => exact ⟨m + 1, by omega, by go_num, by rw [it, HK.out]; rfl, fun s y h1 h2 hy => by
                by_cases c : s = m + 1
                · subst c; rw [HK.out] at hy; cases hy; have := HC.out; omega
                · exact HB.out s y (by omega) h2 hy, K5.out⟩
      · have m0 : ¬ (m : Int) < (n : Int) := by omega
        have FF := Lib.hid (show hdF R i = false from hdF_false HP.out (fun l => by
          obtain ⟨c, c0, c1, c2⟩ := cyc_short (fun _ _ _ h => pF_lt h) HI.out l.1
          have := HB.out c i (by rw [HN.out] at c1; omega) c0 c2
          omega))
        go_wp2
        go_ret
        exact ⟨by rw [FF.out]; rfl, KK.out⟩
end Go.Proofs.Ytjidldbolbjdpaa
