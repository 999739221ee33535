/- MergesOrder, walked whole: at every input it returns true. -/
import Derived.Test.YtfhpjopdndnmgaaLawCount
import Derived.Test.YtfhpjopdndnmgaaOpen
namespace Go.Proofs.Ytfhpjopdndnmgaa
open Go.RowKit Go.Deep

theorem strict_adj {M : List Cel} (h : Weak M) (hn : ∀ j, j + 1 < M.length → cmpC (nth M j) (nth M (j + 1)) ≠ 0) : Strict M := by
  have step : ∀ k, k + 1 < M.length → cmpC (nth M k) (nth M (k + 1)) < 0 := fun k hk => by
    have h1 := weak_step h (rfl : k + 1 = k + 1) hk
    have h2 := hn k hk
    omega
  have all : ∀ d i, i + d + 1 < M.length → cmpC (nth M i) (nth M (i + d + 1)) < 0 := by
    intro d
    induction d with
    | zero => intro i hi; exact step i hi
    | succ d ih =>
      intro i hi
      have h1 := ih i (by omega)
      have h2 := step (i + d + 1) (by omega)
      rw [show i + (d + 1) + 1 = i + d + 1 + 1 by omega]
      exact cmpC_is.lt_le h1 (Int.le_of_lt h2)
  unfold Strict
  rw [List.pairwise_iff_getElem]
  intro i j hi hj hij
  have h1 := all (j - i - 1) i (by omega)
  rw [show i + (j - i - 1) + 1 = j by omega, nth_elem hi, nth_elem hj] at h1
  exact h1
/-- Where rows lie, one by one. -/
theorem pairs_of {w : World} {ao : Option Addr} {n cap : Nat} {L : List (List Cel)} (h : ReadsR w (.slice ao n cap) L) (hL : 0 < L.length) :
    ∃ (g o : Nat) (P : List (Value × List Cel)), ao = some ⟨g, o, none⟩ ∧ n = L.length ∧ P.map (·.2) = L ∧ ∀ j p, P[j]? = some p → w.cell? ⟨g, o + j, none⟩ = some p.1 ∧ ReadsC w p.1 p.2 := by
  obtain ⟨a, c, e, h⟩ := h
  simp only [Value.slice.injEq] at e
  obtain ⟨rfl, rfl, rfl⟩ := e
  rcases h with rfl | ⟨g, o, rfl, hc⟩
  · simp at hL
  · obtain ⟨f, hf⟩ := choose_lt (n := L.length) (p := fun i (y : Value) => ∃ R, L[i]? = some R ∧ w.cell? ⟨g, o + i, none⟩ = some y ∧ ReadsC w y R) (fun i hi => by
      obtain ⟨u, h1, h2⟩ := hc i L[i] (List.getElem?_eq_getElem hi)
      exact ⟨u, L[i], List.getElem?_eq_getElem hi, h1, h2⟩)
    refine ⟨g, o, (List.range L.length).map (fun i => (f i, nth L i)), rfl, rfl, ?_, fun j p hp => ?_⟩
    · apply List.ext_getElem?
      intro i
      by_cases hi : i < L.length
      · simp [hi, nth]
      · simp [hi]
    · have hj : j < L.length := by have := (List.getElem?_eq_some_iff.1 hp).1; simpa using this
      simp [hj] at hp
      subst hp
      obtain ⟨R, h1, h2, h3⟩ := hf j hj
      rw [nth_get L hj] at h1
      cases h1
      exact ⟨h2, h3⟩
theorem news_drop {w : World} {g o : Nat} {P : List (Value × List Cel)} (h : ∀ j p, P[j]? = some p → w.cell? ⟨g, o + j, none⟩ = some p.1) (k : Nat) :
    ∀ j u, ((P.drop k).map (·.1))[j]? = some u → w.cell? ((⟨g, o + k, none⟩ : Addr).add j) = some u := by
  intro j u hu
  rw [List.getElem?_map, List.getElem?_drop] at hu
  cases hp : P[k + j]? with
  | none => rw [hp] at hu; cases hu
  | some p =>
    rw [hp] at hu
    cases hu
    rw [add_mid, show o + k + j = o + (k + j) by omega]
    exact h _ p hp
theorem news_take {w : World} {g o : Nat} {P : List (Value × List Cel)} (h : ∀ j p, P[j]? = some p → w.cell? ⟨g, o + j, none⟩ = some p.1) (k : Nat) :
    ∀ j u, ((P.take k).map (·.1))[j]? = some u → w.cell? ((⟨g, o, none⟩ : Addr).add j) = some u := by
  intro j u hu
  rw [List.getElem?_map, List.getElem?_take] at hu
  split at hu
  · cases hp : P[j]? with
    | none => rw [hp] at hu; cases hu
    | some p =>
      rw [hp] at hu
      cases hu
      rw [add_mid]
      exact h _ p hp
  · cases hu
theorem ones_of {w : World} {g o : Nat} {P Q : List (Value × List Cel)} (h : ∀ j p, P[j]? = some p → w.cell? ⟨g, o + j, none⟩ = some p.1 ∧ ReadsC w p.1 p.2) (hQ : ∀ p ∈ Q, p ∈ P) : ∀ u ∈ Q.map (·.1), u.oneCell' = true := by
  intro u hu
  obtain ⟨p, hp, rfl⟩ := List.mem_map.1 hu
  obtain ⟨j, hj⟩ := List.getElem?_of_mem (hQ p hp)
  obtain ⟨_, a, c, e, _⟩ := h j p hj
  rw [e]; rfl
theorem rows_of {w : World} {base g cap n : Nat} {P : List (Value × List Cel)} (hn : P.length = n) (ho : w.ownsRow base 25 1 (.slice (some ⟨g, 0, none⟩) n cap) n (P.map (·.1))) (hr : ∀ p ∈ P, ReadsC w p.1 p.2) : ReadsR w (.slice (some ⟨g, 0, none⟩) n cap) (P.map (·.2)) := by
  refine ⟨_, cap, by rw [List.length_map, hn], .inr ⟨g, 0, rfl, fun k R hk => ?_⟩⟩
  rw [List.getElem?_map] at hk
  cases hp : P[k]? with
  | none => rw [hp] at hk; cases hk
  | some p =>
    rw [hp] at hk
    cases hk
    rcases row_form ho with ⟨h, _⟩ | ⟨g', c', e, _, _, _, hc⟩
    · cases h
    · simp only [Value.slice.injEq, Option.some.injEq, Addr.mk.injEq, and_true, true_and] at e
      obtain ⟨rfl, rfl⟩ := e
      refine ⟨p.1, ?_, hr p (List.mem_of_getElem? hp)⟩
      rw [Nat.zero_add]
      exact hc k p.1 (by rw [List.getElem?_map, hp]; rfl)
theorem turned_facts {L L2 : List (List Cel)} (h : L.all sortedB = true) (hs : Strict (mergeL L)) (hp : L2.Perm L) :
    L2.all sortedB = true ∧ mergeL L2 = mergeL L ∧ (∀ R ∈ L2, R ∈ L) ∧ L2.length = L.length ∧ total L2 = total L := by
  have h2 : L2.all sortedB = true := List.all_eq_true.2 fun R hR => List.all_eq_true.1 h R (hp.mem_iff.1 hR)
  have hf : L2.flatten.Perm L.flatten := hp.flatten
  refine ⟨h2, (weak_unique _ _ hs (merge_weak h2) ((merge_perm L).trans (hf.symm.trans (merge_perm L2).symm))).symm, fun R hR => hp.mem_iff.1 hR, hp.length_eq, ?_⟩
  have := hf.length_eq
  rw [List.length_flatten, List.length_flatten] at this
  exact this
set_option maxRecDepth 100000 in
set_option maxHeartbeats 8000000 in
theorem mergesOrder_any (w : World) (ao : Option Addr) (cap : Nat) (L : List (List Cel)) (c : Int) (h : ReadsR w (.slice ao L.length cap) L) (h00 : ao = none → L.length = 0 ∧ cap = 0) (hcap : L.length ≤ cap) (c0 : 0 ≤ c) (c1 : c < 256) (hlen : L.length ≤ 9223372036854775807) (hfit : ∀ R ∈ L, R.length ≤ 9223372036854775807 ∧ ∀ c ∈ R, c.k.size ≤ 9223372036854775807 ∧ c.v.size ≤ 9223372036854775807) :
    Calls Try.prog 7 #[.slice ao L.length cap, .int .u8 c] w fun e w' => e = .returned (.bool true) ∧ Below w.heap.size w w' := by
  have GA := Lib.hid (great_any w _ L h hlen hfit)
  have H := Lib.hid h
  clear h hlen hfit
  have hor : greatB L = true ∨ greatB L = false := by cases greatB L <;> simp
  rcases hor with hg | hg
  · have G := Lib.hid hg; clear hg
    go_enter Try.func7, Try.ntmps7
    go_wp2_with fail
    refine GA.out.mono ?_
    rw [G.out]; rintro e w1 ⟨rfl, rfl⟩
    go_wp2_with fail
    refine (does_any w).mono ?_
    rintro e w2 ⟨rfl, k2⟩
    have K2 := Lib.hid k2; clear k2
    go_wp2
    go_ret
    exact ⟨rfl, K2.out.below (fun _ _ f => f)⟩
  · have hf := greatB_false.1 hg
    have hL : L.length ≤ 20 := hf.2.1
    have hR : ∀ R ∈ L, R.length ≤ 1000 := fun R hr => by have := (hf.1 R hr).1; omega
    have ht : total L ≤ 300 := hf.2.2
    have G := Lib.hid hg; have LR := Lib.hid hR; have LT := Lib.hid (show total L ≤ 1000 by omega); have LL := Lib.hid (show L.length ≤ 50 by omega)
    have hfl : L.flatten.length = total L := by rw [List.length_flatten]; rfl
    have FL := Lib.hid hfl
    clear hg hf hR hfl
    by_cases hl0 : L.length = 0
    · have e0 : ((L.length : Int) == 0) = true := by rw [hl0]; rfl
      rw [hl0] at H GA e0 ⊢
      go_enter Try.func7, Try.ntmps7
      go_wp2_with fail
      refine GA.out.mono ?_
      rw [G.out]; rintro e w1 ⟨rfl, rfl⟩
      go_wp2_with fail
      refine (does_any w).mono ?_
      rintro e w2 ⟨rfl, k2⟩
      have K2 := Lib.hid k2; clear k2
      go_wp2
      go_ret
      exact ⟨rfl, K2.out.below (fun _ _ f => f)⟩
    have hl0' : ¬ (L.length : Int) = 0 := by omega
    obtain ⟨g, o, P, rfl, _, PS, PC0⟩ := pairs_of H.out (by omega)
    have PS := Lib.hid PS; have PC0 := Lib.hid PC0
    have hPL : P.length = L.length := by rw [← PS.out, List.length_map]
    have PL := Lib.hid hPL
    obtain ⟨k, hk⟩ : ∃ k, c.toNat % L.length = k := ⟨_, rfl⟩
    have hkl : k < L.length := by have := Nat.mod_lt c.toNat (show 0 < L.length by omega); omega
    have ek : c.tmod (L.length : Int) = (k : Int) := by
      rw [Int.tmod_eq_emod_of_nonneg c0, ← hk]
      have : c = ((c.toNat : Nat) : Int) := by omega
      rw [this]; simp
    have hto := slice_to (some ⟨g, o, none⟩) L.length cap k h00 (by omega) hcap
    obtain ⟨X, hX, hfr⟩ := slice_from (some ⟨g, o, none⟩) L.length cap k h00 (by omega) hcap
    obtain rfl := hX hkl g o rfl
    obtain ⟨i0, hi0, hz0, hz1, hz2⟩ := info_parts inf25
    clear hX hk hPL h00
    go_enter Try.func7, Try.ntmps7
    go_wp2_with fail
    refine GA.out.mono ?_
    rw [G.out]; rintro e w0 ⟨rfl, rfl⟩
    go_wp2_with fail
    refine (all_any w _ L H.out LL.out LR.out LT.out).mono ?_
    rintro e w1 ⟨k1, ⟨h1, rfl⟩ | ⟨h1, u1, rfl, o1⟩⟩
    · have K1 := Lib.hid k1; clear k1 h1
      go_wp2_with fail
      refine (does_any w1).mono ?_
      rintro e w2 ⟨rfl, k2⟩
      have K2 := Lib.hid (keptFF K1.out k2); clear k2
      go_wp2
      go_ret
      exact ⟨rfl, K2.out.below (fun _ _ f => f)⟩
    have AL := Lib.hid h1
    have MMAY := Lib.hid (merge_may h1)
    obtain ⟨M, hM⟩ : ∃ M, mergeL L = M := ⟨_, rfl⟩
    have hw := merge_weak h1
    have hp := merge_perm L
    rw [hM] at hw hp o1
    have hMl : M.length = total L := by rw [hp.length_eq, FL.out]
    have K1 := Lib.hid k1; have WM := Lib.hid hw; have R1 := Lib.hid (ReadsC.of_row o1); have ML := Lib.hid hMl; have MM := Lib.hid hM
    obtain ⟨ao1, cap1, he1, hr1⟩ := R1.out
    subst he1
    have RM := Lib.hid hr1
    have hMle : M.length ≤ 300 := by omega
    clear k1 hw hp o1 h1 hM hr1 hMl
    go_wp2
    go_loopg [7] (M.length + 1) (fun gh t wr => ∃ i : Nat, i + gh = M.length + 2 ∧ 1 ≤ i ∧ t = .int .i64 i ∧ Kept (fun _ => False) w1 wr ∧ ∀ j, j + 1 < i → j + 1 < M.length → cmpC (nth M j) (nth M (j + 1)) ≠ 0)
    case atStart => exact ⟨1, by omega, by omega, rfl, Kept.refl _ _, fun j h => by omega⟩
    case round =>
      obtain ⟨i, hi, hi1, rfl, KI, hne⟩ := hrel
      have JI := Lib.hid hi; have KF := Lib.hid KI; have NE := Lib.hid hne
      clear hi KI hne
      by_cases hil : i < M.length
      · obtain ⟨j, hj⟩ : ∃ j, i = j + 1 := ⟨i - 1, by omega⟩
        rcases RM.out with h0 | ⟨gl, ol, rfl, hcl⟩
        · rw [h0] at hil; simp at hil
        obtain ⟨x, hx⟩ : ∃ x, nth M i = x := ⟨_, rfl⟩
        obtain ⟨p, hp⟩ : ∃ p, nth M j = p := ⟨_, rfl⟩
        have hxk := nth_get M hil
        have hpk := nth_get M (show j < M.length by omega)
        rw [hx] at hxk; rw [hp] at hpk
        obtain ⟨b0, b1, _⟩ := ReadsC.at hcl hxk
        obtain ⟨d0, d1, _⟩ := ReadsC.at hcl hpk
        have x0 := KF.out.cell b0 (fun f => f)
        have x1 := KF.out.cell b1 (fun f => f)
        have p0 := KF.out.cell d0 (fun f => f)
        have p1 := KF.out.cell d1 (fun f => f)
        have i1 : (0 : Int) ≤ (i : Int) := by omega
        have i2 : (i : Int) < (M.length : Int) := by omega
        have i3 : (j : Int) < (M.length : Int) := by omega
        have i4 : (0 : Int) ≤ (j : Int) := by omega
        have e3 : IntKind.i64.wrap ((i : Int) - 1) = (j : Int) := by rw [show (i : Int) - 1 = (j : Int) by omega]; exact IntWalk.i64_in _ (by omega)
        have hstep : cmpC p x ≠ 0 → ∀ q, q + 1 < i + 1 → q + 1 < M.length → cmpC (nth M q) (nth M (q + 1)) ≠ 0 := by
          intro h q hq hq2
          by_cases e : q = j
          · subst e; rw [hp, ← hj, hx]; exact h
          · exact NE.out q (by omega) hq2
        have STEP := Lib.hid hstep
        have hor : (x.k.toList == p.k.toList) = true ∨ (x.k.toList == p.k.toList) = false := by cases (x.k.toList == p.k.toList) <;> simp
        clear hcl hxk hpk b0 b1 d0 d1 hx hp hj hstep
        rcases hor with he | he
        · by_cases hs : x.s = p.s
          · have hs2 : (x.s == p.s) = true := by simp [hs]
            go_wp2
            refine wp_region_held_drew (S := (fun w' => w'.cell? ⟨gl, ol + i * 3, none⟩ = some (.string x.k) ∧ w'.cell? ⟨gl, ol + i * 3 + 1, none⟩ = some (.int .i64 x.s) ∧ w'.cell? ⟨gl, ol + j * 3, none⟩ = some (.string p.k) ∧ w'.cell? ⟨gl, ol + j * 3 + 1, none⟩ = some (.int .i64 p.s))) (by kernel_rfl) ?_ (fun hHeld => ?_)
            · exact ⟨x0, x1, p0, p1⟩
            refine wpAnyH_take (i := 0) (v := ?_) opAt0 (by kernel_rfl) (by kernel_rfl) (by kernel_rfl) (fun _ _ _ h => h) (Or.inl ⟨by rfl, ?_⟩) hHeld ?_
            case refine_2 => (intro w hSw; (try dsimp only at hSw); go_simp; all_goals (with_reducible rfl))
            (try simp only [Act.put]); (try simp only [List.setIfInBounds_toArray]); (try simp only [List.set_cons_succ]); (try simp only [List.set_cons_zero])
            refine wpAnyH_take (i := 1) (v := ?_) opAt1 (by kernel_rfl) (by kernel_rfl) (by kernel_rfl) (fun _ _ _ h => h) (Or.inl ⟨by rfl, ?_⟩) hHeld ?_
            case refine_2 => (intro w hSw; (try dsimp only at hSw); go_simp; all_goals (with_reducible rfl))
            (try simp only [Act.put]); (try simp only [List.setIfInBounds_toArray]); (try simp only [List.set_cons_succ]); (try simp only [List.set_cons_zero])
            refine wpAnyH_take (i := 2) (v := ?_) opAt2 (by kernel_rfl) (by kernel_rfl) (by kernel_rfl) (fun _ _ _ h => h) (Or.inl ⟨by rfl, ?_⟩) hHeld ?_
            case refine_2 => (intro w hSw; (try dsimp only at hSw); go_simp; all_goals (with_reducible rfl))
            (try simp only [Act.put]); (try simp only [List.setIfInBounds_toArray]); (try simp only [List.set_cons_succ]); (try simp only [List.set_cons_zero])
            refine wpAnyH_take (i := 3) (v := ?_) opAt3 (by kernel_rfl) (by kernel_rfl) (by kernel_rfl) (fun _ _ _ h => h) (Or.inl ⟨by rfl, ?_⟩) hHeld ?_
            case refine_2 => (intro w hSw; (try dsimp only at hSw); go_simp; all_goals (with_reducible rfl))
            (try simp only [Act.put]); (try simp only [List.setIfInBounds_toArray]); (try simp only [List.set_cons_succ]); (try simp only [List.set_cons_zero])
            refine wpAnyH_take (i := 4) (v := ?_) opAt4 (by kernel_rfl) (by kernel_rfl) (by kernel_rfl) (fun _ _ _ h => h) (Or.inl ⟨by rfl, ?_⟩) hHeld ?_
            case refine_2 => (intro w hSw; (try dsimp only at hSw); go_simp; all_goals (with_reducible rfl))
            (try simp only [Act.put]); (try simp only [List.setIfInBounds_toArray]); (try simp only [List.set_cons_succ]); (try simp only [List.set_cons_zero])
            refine wpAnyH_take (i := 5) (v := ?_) opAt5 (by kernel_rfl) (by kernel_rfl) (by kernel_rfl) (fun _ _ _ h => h) (Or.inl ⟨by rfl, ?_⟩) hHeld ?_
            case refine_2 => (intro w hSw; (try dsimp only at hSw); go_simp; all_goals (with_reducible rfl))
            (try simp only [Act.put]); (try simp only [List.setIfInBounds_toArray]); (try simp only [List.set_cons_succ]); (try simp only [List.set_cons_zero])
            refine wpAnyH_take (i := 6) (v := ?_) opAt6 (by kernel_rfl) (by kernel_rfl) (by kernel_rfl) (fun _ _ _ h => h) (Or.inl ⟨by rfl, ?_⟩) hHeld ?_
            case refine_2 => (intro w hSw; (try dsimp only at hSw); go_simp; all_goals (with_reducible rfl))
            (try simp only [Act.put]); (try simp only [List.setIfInBounds_toArray]); (try simp only [List.set_cons_succ]); (try simp only [List.set_cons_zero])
            refine wpAnyH_take (i := 7) (v := ?_) opAt7 (by kernel_rfl) (by kernel_rfl) (by kernel_rfl) (fun _ _ _ h => h) (Or.inl ⟨by rfl, ?_⟩) hHeld ?_
            case refine_2 => (intro w hSw; (try dsimp only at hSw); go_simp; all_goals (with_reducible rfl))
            (try simp only [Act.put]); (try simp only [List.setIfInBounds_toArray]); (try simp only [List.set_cons_succ]); (try simp only [List.set_cons_zero])
            refine wpAnyH_take (i := 8) (v := ?_) opAt8 (by kernel_rfl) (by kernel_rfl) (by kernel_rfl) (fun _ _ _ h => h) (Or.inl ⟨by rfl, ?_⟩) hHeld ?_
            case refine_2 => (intro w hSw; (try dsimp only at hSw); go_simp; all_goals (with_reducible rfl))
            (try simp only [Act.put]); (try simp only [List.setIfInBounds_toArray]); (try simp only [List.set_cons_succ]); (try simp only [List.set_cons_zero])
            refine wpAnyH_take (i := 9) (v := ?_) opAt9 (by kernel_rfl) (by kernel_rfl) (by kernel_rfl) (fun _ _ _ h => h) (Or.inl ⟨by rfl, ?_⟩) hHeld ?_
            case refine_2 => (intro w hSw; (try dsimp only at hSw); go_simp; all_goals (with_reducible rfl))
            (try simp only [Act.put]); (try simp only [List.setIfInBounds_toArray]); (try simp only [List.set_cons_succ]); (try simp only [List.set_cons_zero])
            refine wpAnyH_take (i := 10) (v := ?_) opAt10 (by kernel_rfl) (by kernel_rfl) (by kernel_rfl) (fun _ _ _ h => h) (Or.inl ⟨by rfl, ?_⟩) hHeld ?_
            case refine_2 => (intro w hSw; (try dsimp only at hSw); go_simp; all_goals (with_reducible rfl))
            (try simp only [Act.put]); (try simp only [List.setIfInBounds_toArray]); (try simp only [List.set_cons_succ]); (try simp only [List.set_cons_zero])
            refine wpAnyH_take (i := 11) (v := ?_) opAt11 (by kernel_rfl) (by kernel_rfl) (by kernel_rfl) (fun _ _ _ h => h) (Or.inl ⟨by rfl, ?_⟩) hHeld ?_
            case refine_2 => (intro w hSw; (try dsimp only at hSw); go_simp; all_goals (with_reducible rfl))
            (try simp only [Act.put]); (try simp only [List.setIfInBounds_toArray]); (try simp only [List.set_cons_succ]); (try simp only [List.set_cons_zero])
            refine wpAnyH_take (i := 12) (v := ?_) opAt12 (by kernel_rfl) (by kernel_rfl) (by kernel_rfl) (fun _ _ _ h => h) (Or.inl ⟨by rfl, ?_⟩) hHeld ?_
            case refine_2 => (intro w hSw; (try dsimp only at hSw); go_simp; all_goals (with_reducible rfl))
            (try simp only [Act.put]); (try simp only [List.setIfInBounds_toArray]); (try simp only [List.set_cons_succ]); (try simp only [List.set_cons_zero])
            refine wpAnyH_take (i := 13) (v := ?_) opAt13 (by kernel_rfl) (by kernel_rfl) (by kernel_rfl) (fun _ _ _ h => h) (Or.inl ⟨by rfl, ?_⟩) hHeld ?_
            case refine_2 => (intro w hSw; (try dsimp only at hSw); go_simp; all_goals (with_reducible rfl))
            (try simp only [Act.put]); (try simp only [List.setIfInBounds_toArray]); (try simp only [List.set_cons_succ]); (try simp only [List.set_cons_zero])
            refine wpAnyH_take (i := 14) (v := ?_) opAt14 (by kernel_rfl) (by kernel_rfl) (by kernel_rfl) (fun _ _ _ h => h) (Or.inl ⟨by rfl, ?_⟩) hHeld ?_
            case refine_2 => (intro w hSw; (try dsimp only at hSw); go_simp; all_goals (with_reducible rfl))
            (try simp only [Act.put]); (try simp only [List.setIfInBounds_toArray]); (try simp only [List.set_cons_succ]); (try simp only [List.set_cons_zero])
            refine wpAnyH_take (i := 15) (v := ?_) opAt15 (by kernel_rfl) (by kernel_rfl) (by kernel_rfl) (fun _ _ _ h => h) (Or.inl ⟨by rfl, ?_⟩) hHeld ?_
            case refine_2 => (intro w hSw; (try dsimp only at hSw); go_simp; all_goals (with_reducible rfl))
            (try simp only [Act.put]); (try simp only [List.setIfInBounds_toArray]); (try simp only [List.set_cons_succ]); (try simp only [List.set_cons_zero])
            refine wpAnyH_take (i := 16) (v := ?_) opAt16 (by kernel_rfl) (by kernel_rfl) (by kernel_rfl) (fun _ _ _ h => h) (Or.inl ⟨by rfl, ?_⟩) hHeld ?_
            case refine_2 => (intro w hSw; (try dsimp only at hSw); go_simp; all_goals (with_reducible rfl))
            (try simp only [Act.put]); (try simp only [List.setIfInBounds_toArray]); (try simp only [List.set_cons_succ]); (try simp only [List.set_cons_zero])
            refine wpAnyH_take (i := 17) (v := ?_) opAt17 (by kernel_rfl) (by kernel_rfl) (by kernel_rfl) (fun _ _ _ h => h) (Or.inl ⟨by rfl, ?_⟩) hHeld ?_
            case refine_2 => (intro w hSw; (try dsimp only at hSw); go_simp; all_goals (with_reducible rfl))
            (try simp only [Act.put]); (try simp only [List.setIfInBounds_toArray]); (try simp only [List.set_cons_succ]); (try simp only [List.set_cons_zero])
            refine wpAnyH_take (i := 18) (v := ?_) opAt18 (by kernel_rfl) (by kernel_rfl) (by kernel_rfl) (fun _ _ _ h => h) (Or.inl ⟨by rfl, ?_⟩) hHeld ?_
            case refine_2 => (intro w hSw; (try dsimp only at hSw); go_simp; all_goals (with_reducible rfl))
            (try simp only [Act.put]); (try simp only [List.setIfInBounds_toArray]); (try simp only [List.set_cons_succ]); (try simp only [List.set_cons_zero])
            refine wpAnyH_take (i := 19) (v := ?_) opAt19 (by kernel_rfl) (by kernel_rfl) (by kernel_rfl) (fun _ _ _ h => h) (Or.inl ⟨by rfl, ?_⟩) hHeld ?_
            case refine_2 => (intro w hSw; (try dsimp only at hSw); go_simp; all_goals (with_reducible rfl))
            (try simp only [Act.put]); (try simp only [List.setIfInBounds_toArray]); (try simp only [List.set_cons_succ]); (try simp only [List.set_cons_zero])
            refine wpAnyH_take (i := 20) (v := ?_) opAt20 (by kernel_rfl) (by kernel_rfl) (by kernel_rfl) (fun _ _ _ h => h) (Or.inl ⟨by rfl, ?_⟩) hHeld ?_
            case refine_2 => (intro w hSw; (try dsimp only at hSw); go_simp; all_goals (with_reducible rfl))
            (try simp only [Act.put]); (try simp only [List.setIfInBounds_toArray]); (try simp only [List.set_cons_succ]); (try simp only [List.set_cons_zero])
            refine wpAnyH_take (i := 21) (v := ?_) opAt21 (by kernel_rfl) (by kernel_rfl) (by kernel_rfl) (fun _ _ _ h => h) (Or.inl ⟨by rfl, ?_⟩) hHeld ?_
            case refine_2 => (intro w hSw; (try dsimp only at hSw); go_simp; all_goals (with_reducible rfl))
            (try simp only [Act.put]); (try simp only [List.setIfInBounds_toArray]); (try simp only [List.set_cons_succ]); (try simp only [List.set_cons_zero])
            refine wpAnyH_take (i := 22) (v := ?_) opAt22 (by kernel_rfl) (by kernel_rfl) (by kernel_rfl) (fun _ _ _ h => h) (Or.inl ⟨by rfl, ?_⟩) hHeld ?_
            case refine_2 => (intro w hSw; (try dsimp only at hSw); go_simp; all_goals (with_reducible rfl))
            (try simp only [Act.put]); (try simp only [List.setIfInBounds_toArray]); (try simp only [List.set_cons_succ]); (try simp only [List.set_cons_zero])
            refine wpAnyH_take (i := 23) (v := ?_) opAt23 (by kernel_rfl) (by kernel_rfl) (by kernel_rfl) (fun _ _ _ h => h) (Or.inl ⟨by rfl, ?_⟩) hHeld ?_
            case refine_2 => (intro w hSw; (try dsimp only at hSw); go_simp; all_goals (with_reducible rfl))
            (try simp only [Act.put]); (try simp only [List.setIfInBounds_toArray]); (try simp only [List.set_cons_succ]); (try simp only [List.set_cons_zero])
            refine wpAnyH_take (i := 24) (v := ?_) opAt24 (by kernel_rfl) (by kernel_rfl) (by kernel_rfl) (fun _ _ _ h => h) (Or.inl ⟨by rfl, ?_⟩) hHeld ?_
            case refine_2 => (intro w hSw; (try dsimp only at hSw); go_simp; all_goals (with_reducible rfl))
            (try simp only [Act.put]); (try simp only [List.setIfInBounds_toArray]); (try simp only [List.set_cons_succ]); (try simp only [List.set_cons_zero])
            refine wpAnyH_take (i := 25) (v := ?_) opAt25 (by kernel_rfl) (by kernel_rfl) (by kernel_rfl) (fun _ _ _ h => h) (Or.inl ⟨by rfl, ?_⟩) hHeld ?_
            case refine_2 => (intro w hSw; (try dsimp only at hSw); go_simp; all_goals (with_reducible rfl))
            (try simp only [Act.put]); (try simp only [List.setIfInBounds_toArray]); (try simp only [List.set_cons_succ]); (try simp only [List.set_cons_zero])
            refine wpAnyH_done (by kernel_rfl) ?_ _
            go_wp2_with fail
            refine (does_any wr.drew).mono ?_
            rintro e w2 ⟨rfl, k2⟩
            have K2 := Lib.hid (keptFF (keptFF K1.out KF.out.drew) k2); clear k2
            go_wp2
            go_ret
            exact ⟨rfl, K2.out.below (fun _ _ f => f)⟩
          · have hs2 : (x.s == p.s) = false := by simp [hs]
            go_wp2
            refine wp_region_held_drew (S := (fun w' => w'.cell? ⟨gl, ol + i * 3, none⟩ = some (.string x.k) ∧ w'.cell? ⟨gl, ol + i * 3 + 1, none⟩ = some (.int .i64 x.s) ∧ w'.cell? ⟨gl, ol + j * 3, none⟩ = some (.string p.k) ∧ w'.cell? ⟨gl, ol + j * 3 + 1, none⟩ = some (.int .i64 p.s))) (by kernel_rfl) ?_ (fun hHeld => ?_)
            · exact ⟨x0, x1, p0, p1⟩
            refine wpAnyH_take (i := 0) (v := ?_) opAt0 (by kernel_rfl) (by kernel_rfl) (by kernel_rfl) (fun _ _ _ h => h) (Or.inl ⟨by rfl, ?_⟩) hHeld ?_
            case refine_2 => (intro w hSw; (try dsimp only at hSw); go_simp; all_goals (with_reducible rfl))
            (try simp only [Act.put]); (try simp only [List.setIfInBounds_toArray]); (try simp only [List.set_cons_succ]); (try simp only [List.set_cons_zero])
            refine wpAnyH_take (i := 1) (v := ?_) opAt1 (by kernel_rfl) (by kernel_rfl) (by kernel_rfl) (fun _ _ _ h => h) (Or.inl ⟨by rfl, ?_⟩) hHeld ?_
            case refine_2 => (intro w hSw; (try dsimp only at hSw); go_simp; all_goals (with_reducible rfl))
            (try simp only [Act.put]); (try simp only [List.setIfInBounds_toArray]); (try simp only [List.set_cons_succ]); (try simp only [List.set_cons_zero])
            refine wpAnyH_take (i := 2) (v := ?_) opAt2 (by kernel_rfl) (by kernel_rfl) (by kernel_rfl) (fun _ _ _ h => h) (Or.inl ⟨by rfl, ?_⟩) hHeld ?_
            case refine_2 => (intro w hSw; (try dsimp only at hSw); go_simp; all_goals (with_reducible rfl))
            (try simp only [Act.put]); (try simp only [List.setIfInBounds_toArray]); (try simp only [List.set_cons_succ]); (try simp only [List.set_cons_zero])
            refine wpAnyH_take (i := 3) (v := ?_) opAt3 (by kernel_rfl) (by kernel_rfl) (by kernel_rfl) (fun _ _ _ h => h) (Or.inl ⟨by rfl, ?_⟩) hHeld ?_
            case refine_2 => (intro w hSw; (try dsimp only at hSw); go_simp; all_goals (with_reducible rfl))
            (try simp only [Act.put]); (try simp only [List.setIfInBounds_toArray]); (try simp only [List.set_cons_succ]); (try simp only [List.set_cons_zero])
            refine wpAnyH_take (i := 4) (v := ?_) opAt4 (by kernel_rfl) (by kernel_rfl) (by kernel_rfl) (fun _ _ _ h => h) (Or.inl ⟨by rfl, ?_⟩) hHeld ?_
            case refine_2 => (intro w hSw; (try dsimp only at hSw); go_simp; all_goals (with_reducible rfl))
            (try simp only [Act.put]); (try simp only [List.setIfInBounds_toArray]); (try simp only [List.set_cons_succ]); (try simp only [List.set_cons_zero])
            refine wpAnyH_take (i := 5) (v := ?_) opAt5 (by kernel_rfl) (by kernel_rfl) (by kernel_rfl) (fun _ _ _ h => h) (Or.inl ⟨by rfl, ?_⟩) hHeld ?_
            case refine_2 => (intro w hSw; (try dsimp only at hSw); go_simp; all_goals (with_reducible rfl))
            (try simp only [Act.put]); (try simp only [List.setIfInBounds_toArray]); (try simp only [List.set_cons_succ]); (try simp only [List.set_cons_zero])
            refine wpAnyH_take (i := 6) (v := ?_) opAt6 (by kernel_rfl) (by kernel_rfl) (by kernel_rfl) (fun _ _ _ h => h) (Or.inl ⟨by rfl, ?_⟩) hHeld ?_
            case refine_2 => (intro w hSw; (try dsimp only at hSw); go_simp; all_goals (with_reducible rfl))
            (try simp only [Act.put]); (try simp only [List.setIfInBounds_toArray]); (try simp only [List.set_cons_succ]); (try simp only [List.set_cons_zero])
            refine wpAnyH_take (i := 7) (v := ?_) opAt7 (by kernel_rfl) (by kernel_rfl) (by kernel_rfl) (fun _ _ _ h => h) (Or.inl ⟨by rfl, ?_⟩) hHeld ?_
            case refine_2 => (intro w hSw; (try dsimp only at hSw); go_simp; all_goals (with_reducible rfl))
            (try simp only [Act.put]); (try simp only [List.setIfInBounds_toArray]); (try simp only [List.set_cons_succ]); (try simp only [List.set_cons_zero])
            refine wpAnyH_take (i := 8) (v := ?_) opAt8 (by kernel_rfl) (by kernel_rfl) (by kernel_rfl) (fun _ _ _ h => h) (Or.inl ⟨by rfl, ?_⟩) hHeld ?_
            case refine_2 => (intro w hSw; (try dsimp only at hSw); go_simp; all_goals (with_reducible rfl))
            (try simp only [Act.put]); (try simp only [List.setIfInBounds_toArray]); (try simp only [List.set_cons_succ]); (try simp only [List.set_cons_zero])
            refine wpAnyH_take (i := 9) (v := ?_) opAt9 (by kernel_rfl) (by kernel_rfl) (by kernel_rfl) (fun _ _ _ h => h) (Or.inl ⟨by rfl, ?_⟩) hHeld ?_
            case refine_2 => (intro w hSw; (try dsimp only at hSw); go_simp; all_goals (with_reducible rfl))
            (try simp only [Act.put]); (try simp only [List.setIfInBounds_toArray]); (try simp only [List.set_cons_succ]); (try simp only [List.set_cons_zero])
            refine wpAnyH_take (i := 10) (v := ?_) opAt10 (by kernel_rfl) (by kernel_rfl) (by kernel_rfl) (fun _ _ _ h => h) (Or.inl ⟨by rfl, ?_⟩) hHeld ?_
            case refine_2 => (intro w hSw; (try dsimp only at hSw); go_simp; all_goals (with_reducible rfl))
            (try simp only [Act.put]); (try simp only [List.setIfInBounds_toArray]); (try simp only [List.set_cons_succ]); (try simp only [List.set_cons_zero])
            refine wpAnyH_take (i := 11) (v := ?_) opAt11 (by kernel_rfl) (by kernel_rfl) (by kernel_rfl) (fun _ _ _ h => h) (Or.inl ⟨by rfl, ?_⟩) hHeld ?_
            case refine_2 => (intro w hSw; (try dsimp only at hSw); go_simp; all_goals (with_reducible rfl))
            (try simp only [Act.put]); (try simp only [List.setIfInBounds_toArray]); (try simp only [List.set_cons_succ]); (try simp only [List.set_cons_zero])
            refine wpAnyH_take (i := 12) (v := ?_) opAt12 (by kernel_rfl) (by kernel_rfl) (by kernel_rfl) (fun _ _ _ h => h) (Or.inl ⟨by rfl, ?_⟩) hHeld ?_
            case refine_2 => (intro w hSw; (try dsimp only at hSw); go_simp; all_goals (with_reducible rfl))
            (try simp only [Act.put]); (try simp only [List.setIfInBounds_toArray]); (try simp only [List.set_cons_succ]); (try simp only [List.set_cons_zero])
            refine wpAnyH_take (i := 13) (v := ?_) opAt13 (by kernel_rfl) (by kernel_rfl) (by kernel_rfl) (fun _ _ _ h => h) (Or.inl ⟨by rfl, ?_⟩) hHeld ?_
            case refine_2 => (intro w hSw; (try dsimp only at hSw); go_simp; all_goals (with_reducible rfl))
            (try simp only [Act.put]); (try simp only [List.setIfInBounds_toArray]); (try simp only [List.set_cons_succ]); (try simp only [List.set_cons_zero])
            refine wpAnyH_take (i := 14) (v := ?_) opAt14 (by kernel_rfl) (by kernel_rfl) (by kernel_rfl) (fun _ _ _ h => h) (Or.inl ⟨by rfl, ?_⟩) hHeld ?_
            case refine_2 => (intro w hSw; (try dsimp only at hSw); go_simp; all_goals (with_reducible rfl))
            (try simp only [Act.put]); (try simp only [List.setIfInBounds_toArray]); (try simp only [List.set_cons_succ]); (try simp only [List.set_cons_zero])
            refine wpAnyH_take (i := 15) (v := ?_) opAt15 (by kernel_rfl) (by kernel_rfl) (by kernel_rfl) (fun _ _ _ h => h) (Or.inl ⟨by rfl, ?_⟩) hHeld ?_
            case refine_2 => (intro w hSw; (try dsimp only at hSw); go_simp; all_goals (with_reducible rfl))
            (try simp only [Act.put]); (try simp only [List.setIfInBounds_toArray]); (try simp only [List.set_cons_succ]); (try simp only [List.set_cons_zero])
            refine wpAnyH_take (i := 16) (v := ?_) opAt16 (by kernel_rfl) (by kernel_rfl) (by kernel_rfl) (fun _ _ _ h => h) (Or.inl ⟨by rfl, ?_⟩) hHeld ?_
            case refine_2 => (intro w hSw; (try dsimp only at hSw); go_simp; all_goals (with_reducible rfl))
            (try simp only [Act.put]); (try simp only [List.setIfInBounds_toArray]); (try simp only [List.set_cons_succ]); (try simp only [List.set_cons_zero])
            refine wpAnyH_take (i := 17) (v := ?_) opAt17 (by kernel_rfl) (by kernel_rfl) (by kernel_rfl) (fun _ _ _ h => h) (Or.inl ⟨by rfl, ?_⟩) hHeld ?_
            case refine_2 => (intro w hSw; (try dsimp only at hSw); go_simp; all_goals (with_reducible rfl))
            (try simp only [Act.put]); (try simp only [List.setIfInBounds_toArray]); (try simp only [List.set_cons_succ]); (try simp only [List.set_cons_zero])
            refine wpAnyH_take (i := 18) (v := ?_) opAt18 (by kernel_rfl) (by kernel_rfl) (by kernel_rfl) (fun _ _ _ h => h) (Or.inl ⟨by rfl, ?_⟩) hHeld ?_
            case refine_2 => (intro w hSw; (try dsimp only at hSw); go_simp; all_goals (with_reducible rfl))
            (try simp only [Act.put]); (try simp only [List.setIfInBounds_toArray]); (try simp only [List.set_cons_succ]); (try simp only [List.set_cons_zero])
            refine wpAnyH_take (i := 19) (v := ?_) opAt19 (by kernel_rfl) (by kernel_rfl) (by kernel_rfl) (fun _ _ _ h => h) (Or.inl ⟨by rfl, ?_⟩) hHeld ?_
            case refine_2 => (intro w hSw; (try dsimp only at hSw); go_simp; all_goals (with_reducible rfl))
            (try simp only [Act.put]); (try simp only [List.setIfInBounds_toArray]); (try simp only [List.set_cons_succ]); (try simp only [List.set_cons_zero])
            refine wpAnyH_take (i := 20) (v := ?_) opAt20 (by kernel_rfl) (by kernel_rfl) (by kernel_rfl) (fun _ _ _ h => h) (Or.inl ⟨by rfl, ?_⟩) hHeld ?_
            case refine_2 => (intro w hSw; (try dsimp only at hSw); go_simp; all_goals (with_reducible rfl))
            (try simp only [Act.put]); (try simp only [List.setIfInBounds_toArray]); (try simp only [List.set_cons_succ]); (try simp only [List.set_cons_zero])
            refine wpAnyH_take (i := 21) (v := ?_) opAt21 (by kernel_rfl) (by kernel_rfl) (by kernel_rfl) (fun _ _ _ h => h) (Or.inl ⟨by rfl, ?_⟩) hHeld ?_
            case refine_2 => (intro w hSw; (try dsimp only at hSw); go_simp; all_goals (with_reducible rfl))
            (try simp only [Act.put]); (try simp only [List.setIfInBounds_toArray]); (try simp only [List.set_cons_succ]); (try simp only [List.set_cons_zero])
            refine wpAnyH_take (i := 22) (v := ?_) opAt22 (by kernel_rfl) (by kernel_rfl) (by kernel_rfl) (fun _ _ _ h => h) (Or.inl ⟨by rfl, ?_⟩) hHeld ?_
            case refine_2 => (intro w hSw; (try dsimp only at hSw); go_simp; all_goals (with_reducible rfl))
            (try simp only [Act.put]); (try simp only [List.setIfInBounds_toArray]); (try simp only [List.set_cons_succ]); (try simp only [List.set_cons_zero])
            refine wpAnyH_take (i := 23) (v := ?_) opAt23 (by kernel_rfl) (by kernel_rfl) (by kernel_rfl) (fun _ _ _ h => h) (Or.inl ⟨by rfl, ?_⟩) hHeld ?_
            case refine_2 => (intro w hSw; (try dsimp only at hSw); go_simp; all_goals (with_reducible rfl))
            (try simp only [Act.put]); (try simp only [List.setIfInBounds_toArray]); (try simp only [List.set_cons_succ]); (try simp only [List.set_cons_zero])
            refine wpAnyH_take (i := 24) (v := ?_) opAt24 (by kernel_rfl) (by kernel_rfl) (by kernel_rfl) (fun _ _ _ h => h) (Or.inl ⟨by rfl, ?_⟩) hHeld ?_
            case refine_2 => (intro w hSw; (try dsimp only at hSw); go_simp; all_goals (with_reducible rfl))
            (try simp only [Act.put]); (try simp only [List.setIfInBounds_toArray]); (try simp only [List.set_cons_succ]); (try simp only [List.set_cons_zero])
            refine wpAnyH_take (i := 25) (v := ?_) opAt25 (by kernel_rfl) (by kernel_rfl) (by kernel_rfl) (fun _ _ _ h => h) (Or.inl ⟨by rfl, ?_⟩) hHeld ?_
            case refine_2 => (intro w hSw; (try dsimp only at hSw); go_simp; all_goals (with_reducible rfl))
            (try simp only [Act.put]); (try simp only [List.setIfInBounds_toArray]); (try simp only [List.set_cons_succ]); (try simp only [List.set_cons_zero])
            refine wpAnyH_done (by kernel_rfl) ?_ _
            go_wp2
            go_roundg (gk - 1)
            case measure => have := JI.out; omega
            case rel => exact ⟨i + 1, by have := JI.out; omega, by omega, by go_num, KF.out.drew, STEP.out (fun h => hs (((cmpC_zero _ _).1 h).2.symm))⟩
        · go_wp2
          refine wp_region_held_drew (S := (fun w' => w'.cell? ⟨gl, ol + i * 3, none⟩ = some (.string x.k) ∧ w'.cell? ⟨gl, ol + i * 3 + 1, none⟩ = some (.int .i64 x.s) ∧ w'.cell? ⟨gl, ol + j * 3, none⟩ = some (.string p.k) ∧ w'.cell? ⟨gl, ol + j * 3 + 1, none⟩ = some (.int .i64 p.s))) (by kernel_rfl) ?_ (fun hHeld => ?_)
          · exact ⟨x0, x1, p0, p1⟩
          refine wpAnyH_take (i := 0) (v := ?_) opAt0 (by kernel_rfl) (by kernel_rfl) (by kernel_rfl) (fun _ _ _ h => h) (Or.inl ⟨by rfl, ?_⟩) hHeld ?_
          case refine_2 => (intro w hSw; (try dsimp only at hSw); go_simp; all_goals (with_reducible rfl))
          (try simp only [Act.put]); (try simp only [List.setIfInBounds_toArray]); (try simp only [List.set_cons_succ]); (try simp only [List.set_cons_zero])
          refine wpAnyH_take (i := 1) (v := ?_) opAt1 (by kernel_rfl) (by kernel_rfl) (by kernel_rfl) (fun _ _ _ h => h) (Or.inl ⟨by rfl, ?_⟩) hHeld ?_
          case refine_2 => (intro w hSw; (try dsimp only at hSw); go_simp; all_goals (with_reducible rfl))
          (try simp only [Act.put]); (try simp only [List.setIfInBounds_toArray]); (try simp only [List.set_cons_succ]); (try simp only [List.set_cons_zero])
          refine wpAnyH_take (i := 2) (v := ?_) opAt2 (by kernel_rfl) (by kernel_rfl) (by kernel_rfl) (fun _ _ _ h => h) (Or.inl ⟨by rfl, ?_⟩) hHeld ?_
          case refine_2 => (intro w hSw; (try dsimp only at hSw); go_simp; all_goals (with_reducible rfl))
          (try simp only [Act.put]); (try simp only [List.setIfInBounds_toArray]); (try simp only [List.set_cons_succ]); (try simp only [List.set_cons_zero])
          refine wpAnyH_take (i := 3) (v := ?_) opAt3 (by kernel_rfl) (by kernel_rfl) (by kernel_rfl) (fun _ _ _ h => h) (Or.inl ⟨by rfl, ?_⟩) hHeld ?_
          case refine_2 => (intro w hSw; (try dsimp only at hSw); go_simp; all_goals (with_reducible rfl))
          (try simp only [Act.put]); (try simp only [List.setIfInBounds_toArray]); (try simp only [List.set_cons_succ]); (try simp only [List.set_cons_zero])
          refine wpAnyH_take (i := 4) (v := ?_) opAt4 (by kernel_rfl) (by kernel_rfl) (by kernel_rfl) (fun _ _ _ h => h) (Or.inl ⟨by rfl, ?_⟩) hHeld ?_
          case refine_2 => (intro w hSw; (try dsimp only at hSw); go_simp; all_goals (with_reducible rfl))
          (try simp only [Act.put]); (try simp only [List.setIfInBounds_toArray]); (try simp only [List.set_cons_succ]); (try simp only [List.set_cons_zero])
          refine wpAnyH_take (i := 5) (v := ?_) opAt5 (by kernel_rfl) (by kernel_rfl) (by kernel_rfl) (fun _ _ _ h => h) (Or.inl ⟨by rfl, ?_⟩) hHeld ?_
          case refine_2 => (intro w hSw; (try dsimp only at hSw); go_simp; all_goals (with_reducible rfl))
          (try simp only [Act.put]); (try simp only [List.setIfInBounds_toArray]); (try simp only [List.set_cons_succ]); (try simp only [List.set_cons_zero])
          refine wpAnyH_take (i := 6) (v := ?_) opAt6 (by kernel_rfl) (by kernel_rfl) (by kernel_rfl) (fun _ _ _ h => h) (Or.inl ⟨by rfl, ?_⟩) hHeld ?_
          case refine_2 => (intro w hSw; (try dsimp only at hSw); go_simp; all_goals (with_reducible rfl))
          (try simp only [Act.put]); (try simp only [List.setIfInBounds_toArray]); (try simp only [List.set_cons_succ]); (try simp only [List.set_cons_zero])
          refine wpAnyH_take (i := 7) (v := ?_) opAt7 (by kernel_rfl) (by kernel_rfl) (by kernel_rfl) (fun _ _ _ h => h) (Or.inl ⟨by rfl, ?_⟩) hHeld ?_
          case refine_2 => (intro w hSw; (try dsimp only at hSw); go_simp; all_goals (with_reducible rfl))
          (try simp only [Act.put]); (try simp only [List.setIfInBounds_toArray]); (try simp only [List.set_cons_succ]); (try simp only [List.set_cons_zero])
          refine wpAnyH_take (i := 8) (v := ?_) opAt8 (by kernel_rfl) (by kernel_rfl) (by kernel_rfl) (fun _ _ _ h => h) (Or.inl ⟨by rfl, ?_⟩) hHeld ?_
          case refine_2 => (intro w hSw; (try dsimp only at hSw); go_simp; all_goals (with_reducible rfl))
          (try simp only [Act.put]); (try simp only [List.setIfInBounds_toArray]); (try simp only [List.set_cons_succ]); (try simp only [List.set_cons_zero])
          refine wpAnyH_take (i := 9) (v := ?_) opAt9 (by kernel_rfl) (by kernel_rfl) (by kernel_rfl) (fun _ _ _ h => h) (Or.inl ⟨by rfl, ?_⟩) hHeld ?_
          case refine_2 => (intro w hSw; (try dsimp only at hSw); go_simp; all_goals (with_reducible rfl))
          (try simp only [Act.put]); (try simp only [List.setIfInBounds_toArray]); (try simp only [List.set_cons_succ]); (try simp only [List.set_cons_zero])
          refine wpAnyH_take (i := 10) (v := ?_) opAt10 (by kernel_rfl) (by kernel_rfl) (by kernel_rfl) (fun _ _ _ h => h) (Or.inl ⟨by rfl, ?_⟩) hHeld ?_
          case refine_2 => (intro w hSw; (try dsimp only at hSw); go_simp; all_goals (with_reducible rfl))
          (try simp only [Act.put]); (try simp only [List.setIfInBounds_toArray]); (try simp only [List.set_cons_succ]); (try simp only [List.set_cons_zero])
          refine wpAnyH_take (i := 11) (v := ?_) opAt11 (by kernel_rfl) (by kernel_rfl) (by kernel_rfl) (fun _ _ _ h => h) (Or.inl ⟨by rfl, ?_⟩) hHeld ?_
          case refine_2 => (intro w hSw; (try dsimp only at hSw); go_simp; all_goals (with_reducible rfl))
          (try simp only [Act.put]); (try simp only [List.setIfInBounds_toArray]); (try simp only [List.set_cons_succ]); (try simp only [List.set_cons_zero])
          refine wpAnyH_take (i := 12) (v := ?_) opAt12 (by kernel_rfl) (by kernel_rfl) (by kernel_rfl) (fun _ _ _ h => h) (Or.inl ⟨by rfl, ?_⟩) hHeld ?_
          case refine_2 => (intro w hSw; (try dsimp only at hSw); go_simp; all_goals (with_reducible rfl))
          (try simp only [Act.put]); (try simp only [List.setIfInBounds_toArray]); (try simp only [List.set_cons_succ]); (try simp only [List.set_cons_zero])
          refine wpAnyH_take (i := 13) opAt13 (by kernel_rfl) (by kernel_rfl) (by kernel_rfl) (fun _ _ _ h => h) (Or.inr ⟨by rfl, rfl⟩) hHeld ?_
          (try simp only [Act.put]); (try simp only [List.setIfInBounds_toArray]); (try simp only [List.set_cons_succ]); (try simp only [List.set_cons_zero])
          refine wpAnyH_take (i := 14) opAt14 (by kernel_rfl) (by kernel_rfl) (by kernel_rfl) (fun _ _ _ h => h) (Or.inr ⟨by rfl, rfl⟩) hHeld ?_
          (try simp only [Act.put]); (try simp only [List.setIfInBounds_toArray]); (try simp only [List.set_cons_succ]); (try simp only [List.set_cons_zero])
          refine wpAnyH_take (i := 15) opAt15 (by kernel_rfl) (by kernel_rfl) (by kernel_rfl) (fun _ _ _ h => h) (Or.inr ⟨by rfl, rfl⟩) hHeld ?_
          (try simp only [Act.put]); (try simp only [List.setIfInBounds_toArray]); (try simp only [List.set_cons_succ]); (try simp only [List.set_cons_zero])
          refine wpAnyH_take (i := 16) opAt16 (by kernel_rfl) (by kernel_rfl) (by kernel_rfl) (fun _ _ _ h => h) (Or.inr ⟨by rfl, rfl⟩) hHeld ?_
          (try simp only [Act.put]); (try simp only [List.setIfInBounds_toArray]); (try simp only [List.set_cons_succ]); (try simp only [List.set_cons_zero])
          refine wpAnyH_take (i := 17) opAt17 (by kernel_rfl) (by kernel_rfl) (by kernel_rfl) (fun _ _ _ h => h) (Or.inr ⟨by rfl, rfl⟩) hHeld ?_
          (try simp only [Act.put]); (try simp only [List.setIfInBounds_toArray]); (try simp only [List.set_cons_succ]); (try simp only [List.set_cons_zero])
          refine wpAnyH_take (i := 18) opAt18 (by kernel_rfl) (by kernel_rfl) (by kernel_rfl) (fun _ _ _ h => h) (Or.inr ⟨by rfl, rfl⟩) hHeld ?_
          (try simp only [Act.put]); (try simp only [List.setIfInBounds_toArray]); (try simp only [List.set_cons_succ]); (try simp only [List.set_cons_zero])
          refine wpAnyH_take (i := 19) opAt19 (by kernel_rfl) (by kernel_rfl) (by kernel_rfl) (fun _ _ _ h => h) (Or.inr ⟨by rfl, rfl⟩) hHeld ?_
          (try simp only [Act.put]); (try simp only [List.setIfInBounds_toArray]); (try simp only [List.set_cons_succ]); (try simp only [List.set_cons_zero])
          refine wpAnyH_take (i := 20) opAt20 (by kernel_rfl) (by kernel_rfl) (by kernel_rfl) (fun _ _ _ h => h) (Or.inr ⟨by rfl, rfl⟩) hHeld ?_
          (try simp only [Act.put]); (try simp only [List.setIfInBounds_toArray]); (try simp only [List.set_cons_succ]); (try simp only [List.set_cons_zero])
          refine wpAnyH_take (i := 21) opAt21 (by kernel_rfl) (by kernel_rfl) (by kernel_rfl) (fun _ _ _ h => h) (Or.inr ⟨by rfl, rfl⟩) hHeld ?_
          (try simp only [Act.put]); (try simp only [List.setIfInBounds_toArray]); (try simp only [List.set_cons_succ]); (try simp only [List.set_cons_zero])
          refine wpAnyH_take (i := 22) opAt22 (by kernel_rfl) (by kernel_rfl) (by kernel_rfl) (fun _ _ _ h => h) (Or.inr ⟨by rfl, rfl⟩) hHeld ?_
          (try simp only [Act.put]); (try simp only [List.setIfInBounds_toArray]); (try simp only [List.set_cons_succ]); (try simp only [List.set_cons_zero])
          refine wpAnyH_take (i := 23) opAt23 (by kernel_rfl) (by kernel_rfl) (by kernel_rfl) (fun _ _ _ h => h) (Or.inr ⟨by rfl, rfl⟩) hHeld ?_
          (try simp only [Act.put]); (try simp only [List.setIfInBounds_toArray]); (try simp only [List.set_cons_succ]); (try simp only [List.set_cons_zero])
          refine wpAnyH_take (i := 24) opAt24 (by kernel_rfl) (by kernel_rfl) (by kernel_rfl) (fun _ _ _ h => h) (Or.inr ⟨by rfl, rfl⟩) hHeld ?_
          (try simp only [Act.put]); (try simp only [List.setIfInBounds_toArray]); (try simp only [List.set_cons_succ]); (try simp only [List.set_cons_zero])
          refine wpAnyH_take (i := 25) (v := ?_) opAt25 (by kernel_rfl) (by kernel_rfl) (by kernel_rfl) (fun _ _ _ h => h) (Or.inl ⟨by rfl, ?_⟩) hHeld ?_
          case refine_2 => (intro w hSw; (try dsimp only at hSw); go_simp; all_goals (with_reducible rfl))
          (try simp only [Act.put]); (try simp only [List.setIfInBounds_toArray]); (try simp only [List.set_cons_succ]); (try simp only [List.set_cons_zero])
          refine wpAnyH_done (by kernel_rfl) ?_ _
          go_wp2
          go_roundg (gk - 1)
          case measure => have := JI.out; omega
          case rel => exact ⟨i + 1, by have := JI.out; omega, by omega, by go_num, KF.out.drew, STEP.out (fun h => by have := ((cmpC_zero _ _).1 h).1; rw [this] at he; simp at he)⟩
      · have e4 : ¬ (i : Int) < (M.length : Int) := by omega
        obtain ⟨wz, rfl⟩ : ∃ wz, wz = wr := ⟨_, rfl⟩
        have hsm : Strict M := strict_adj WM.out (fun j hj => NE.out j (by omega) hj)
        have KW := Lib.hid (keptFF K1.out KF.out)
        have PC := Lib.hid (show ∀ j p, P[j]? = some p → wz.cell? ⟨g, o + j, none⟩ = some p.1 ∧ ReadsC wz p.1 p.2 from fun j p hp => ⟨KW.out.cell (PC0.out j p hp).1 (fun f => f), (PC0.out j p hp).2.keptF KW.out⟩)
        have PR := Lib.hid (show ∀ p ∈ P, ReadsC wz p.1 p.2 from fun p hp => by obtain ⟨j, hj⟩ := List.getElem?_of_mem hp; exact (PC.out j p hj).2)
        obtain rfl := MM.out
        have SM := Lib.hid hsm; have SM2 := Lib.hid ((sorted_iff (mergeL L)).2 ⟨MMAY.out, hsm⟩); have MLE := Lib.hid hMle
        clear hsm e4 hi1
        have e4 : ¬ (i : Int) < ((mergeL L).length : Int) := by omega
        go_wp2
        refine wp_region_held_drew (S := (fun _ => True)) (by kernel_rfl) ?_ (fun hHeld => ?_)
        · trivial
        refine wpAnyH_take (i := 1) (v := ?_) opAt1 (by kernel_rfl) (by kernel_rfl) (by kernel_rfl) (fun _ _ _ h => h) (Or.inl ⟨by rfl, ?_⟩) hHeld ?_
        case refine_2 => (intro w hSw; (try dsimp only at hSw); go_simp; all_goals (with_reducible rfl))
        (try simp only [Act.put]); (try simp only [List.setIfInBounds_toArray]); (try simp only [List.set_cons_succ]); (try simp only [List.set_cons_zero])
        refine wpAnyH_take (i := 2) (v := ?_) opAt2 (by kernel_rfl) (by kernel_rfl) (by kernel_rfl) (fun _ _ _ h => h) (Or.inl ⟨by rfl, ?_⟩) hHeld ?_
        case refine_2 => (intro w hSw; (try dsimp only at hSw); go_simp; all_goals (with_reducible rfl))
        (try simp only [Act.put]); (try simp only [List.setIfInBounds_toArray]); (try simp only [List.set_cons_succ]); (try simp only [List.set_cons_zero])
        refine wpAnyH_take (i := 3) (v := ?_) opAt3 (by kernel_rfl) (by kernel_rfl) (by kernel_rfl) (fun _ _ _ h => h) (Or.inl ⟨by rfl, ?_⟩) hHeld ?_
        case refine_2 => (intro w hSw; (try dsimp only at hSw); go_simp; all_goals (with_reducible rfl))
        (try simp only [Act.put]); (try simp only [List.setIfInBounds_toArray]); (try simp only [List.set_cons_succ]); (try simp only [List.set_cons_zero])
        refine wpAnyH_take (i := 5) (v := ?_) opAt5 (by kernel_rfl) (by kernel_rfl) (by kernel_rfl) (fun _ _ _ h => h) (Or.inl ⟨by rfl, ?_⟩) hHeld ?_
        case refine_2 => (intro w hSw; (try dsimp only at hSw); go_simp; all_goals (with_reducible rfl))
        (try simp only [Act.put]); (try simp only [List.setIfInBounds_toArray]); (try simp only [List.set_cons_succ]); (try simp only [List.set_cons_zero])
        refine wpAnyH_take (i := 6) (v := ?_) opAt6 (by kernel_rfl) (by kernel_rfl) (by kernel_rfl) (fun _ _ _ h => h) (Or.inl ⟨by rfl, ?_⟩) hHeld ?_
        case refine_2 => (intro w hSw; (try dsimp only at hSw); go_simp; all_goals (with_reducible rfl))
        (try simp only [Act.put]); (try simp only [List.setIfInBounds_toArray]); (try simp only [List.set_cons_succ]); (try simp only [List.set_cons_zero])
        refine wpAnyH_take (i := 7) (v := ?_) opAt7 (by kernel_rfl) (by kernel_rfl) (by kernel_rfl) (fun _ _ _ h => h) (Or.inl ⟨by rfl, ?_⟩) hHeld ?_
        case refine_2 => (intro w hSw; (try dsimp only at hSw); go_simp; all_goals (with_reducible rfl))
        (try simp only [Act.put]); (try simp only [List.setIfInBounds_toArray]); (try simp only [List.set_cons_succ]); (try simp only [List.set_cons_zero])
        refine wpAnyH_ready (rs := [0]) (by kernel_rfl) (by simp) ?_
        refine AllReadyH.cons opAt0 (fun K hK => ?_) AllReadyH.nil
        go_simp
        refine hK.out _ _ ?_ (fun hHeld => ?_)
        · trivial
        clear hK K
        (try simp only [Act.put]); (try simp only [List.setIfInBounds_toArray]); (try simp only [List.set_cons_succ]); (try simp only [List.set_cons_zero])
        refine wpAnyH_ready (rs := [4]) (by kernel_rfl) (by simp) ?_
        refine AllReadyH.cons opAt4 (fun K hK => ?_) AllReadyH.nil
        refine step_app (by rfl) _ _ 22 (by rfl) wz.heap.size 25 i0 _ 1 24 Try.underlying22 hi0 hz0 hz1 hz2 (by rfl) (by decide) _ 0 [] (by rfl) (World.ownsRow_made wz.drew #[] 0 (Nat.le_refl _) (Nat.zero_le _) rfl) ⟨g, o + k, none⟩ (L.length - k) _ ((P.drop k).map (·.1)) (by rfl) ?_ ?_ ?_ ?_ ?_ ?_ ?_
        · rw [List.length_map, List.length_drop, PL.out]; omega
        · exact news_drop (fun j p hp => ((Kept.refl (fun _ => False) wz.drew).alloc _).cell (PC.out j p hp).1 (fun f => f)) k
        · exact ones_of PC.out (fun p hp => List.mem_of_mem_drop hp)
        · unfold maxLen; omega
        · omega
        · show wz.heap.size ≤ (wz.drew.alloc _).heap.size; simp
        intro ao5 cap5 w5 hown5 hgr5 hat5
        simp only [Nat.zero_add, List.nil_append] at hown5 hat5 ⊢
        have K5 := Lib.hid ((((Kept.refl (fun _ => False) wz).drew).alloc (.cells #[] 25)).grown hgr5 (fun k hk hlt => by simp [Value.ownBlock] at hk; omega))
        have O5 := Lib.hid hown5; have A5 := Lib.hid hat5
        clear hown5 hgr5 hat5
        refine hK.out _ _ ?_ (fun hHeld => ?_)
        · trivial
        clear hK K
        (try simp only [Act.put]); (try simp only [List.setIfInBounds_toArray]); (try simp only [List.set_cons_succ]); (try simp only [List.set_cons_zero])
        refine wpAnyH_ready (rs := [8]) (by kernel_rfl) (by simp) ?_
        refine AllReadyH.cons opAt8 (fun K hK => ?_) AllReadyH.nil
        refine step_app (by rfl) _ _ 22 (by rfl) wz.heap.size 25 i0 _ 1 24 Try.underlying22 hi0 hz0 hz1 hz2 (by rfl) (by decide) _ (L.length - k) _ (by rfl) O5.out ⟨g, o, none⟩ k _ ((P.take k).map (·.1)) (by rfl) ?_ ?_ ?_ ?_ ?_ ?_ ?_
        · rw [List.length_map, List.length_take, PL.out]; omega
        · exact news_take (fun j p hp => K5.out.cell (PC.out j p hp).1 (fun f => f)) k
        · exact ones_of PC.out (fun p hp => List.mem_of_mem_take hp)
        · unfold maxLen; omega
        · omega
        · exact K5.out.size
        intro ao6 cap6 w6 hown6 hgr6 hat6
        have hsum : L.length - k + k = L.length := by omega
        simp only [hsum] at hown6 hat6 ⊢
        have K6 := Lib.hid ((K5.out.mono (fun _ _ f => f.elim) : Kept (fun b => wz.heap.size ≤ b) wz w5).grown hgr6 (fun b hb hlt => by rcases A5.out with h | h <;> rw [hb] at h <;> simp [Value.ownBlock] at h <;> omega))
        rw [← List.map_append] at hown6
        have O6 := Lib.hid hown6
        clear hown6 hgr6 hat6 hsum
        refine hK.out _ _ ?_ (fun hHeld => ?_)
        · trivial
        clear hK K
        (try simp only [Act.put]); (try simp only [List.setIfInBounds_toArray]); (try simp only [List.set_cons_succ]); (try simp only [List.set_cons_zero])
        refine wpAnyH_take (i := 9) (v := ?_) opAt9 (by kernel_rfl) (by kernel_rfl) (by kernel_rfl) (fun _ _ _ h => h) (Or.inl ⟨by rfl, ?_⟩) hHeld ?_
        case refine_2 => (intro w hSw; (try dsimp only at hSw); go_simp; all_goals (with_reducible rfl))
        (try simp only [Act.put]); (try simp only [List.setIfInBounds_toArray]); (try simp only [List.set_cons_succ]); (try simp only [List.set_cons_zero])
        refine wpAnyH_done (by kernel_rfl) ?_ _
        rcases row_form O6.out with ⟨_, hn⟩ | ⟨g6, cap6', hv6, _⟩
        · exact absurd hn hl0
        simp only [Value.slice.injEq, true_and] at hv6
        obtain ⟨rfl, rfl⟩ := hv6
        obtain ⟨P1, hP1⟩ : ∃ P1, P.drop k ++ P.take k = P1 := ⟨_, rfl⟩
        have PP1 := Lib.hid (show P1.Perm P from hP1 ▸ (List.perm_append_comm.trans (by rw [List.take_append_drop])))
        rw [hP1] at O6
        clear hP1
        by_cases hc : (128 : Int) ≤ c
        · go_wp2
          obtain ⟨n2, hn2⟩ : ∃ n2, L.length / 2 = n2 := ⟨_, rfl⟩
          have en2 : (L.length : Int).tdiv 2 = (n2 : Int) := by rw [Int.tdiv_eq_ediv_of_nonneg (by omega), ← hn2]; omega
          go_loopg [10] n2 (fun gh t wr => ∃ (i : Nat) (P2 : List (Value × List Cel)), i + gh = n2 ∧ t = .int .i64 i ∧ P2.Perm P ∧ wr.ownsRow wz.heap.size 25 1 (.slice (some ⟨g6, 0, none⟩) L.length cap6) L.length (P2.map (·.1)) ∧ Kept (fun b => wz.heap.size ≤ b) wz wr)
          case atStart => exact ⟨0, P1, by omega, rfl, PP1.out, O6.out, K6.out⟩
          case round =>
            obtain ⟨i, P2, hi, rfl, hpp, hot, KT0⟩ := hrel
            have JI := Lib.hid hi; have PP := Lib.hid hpp; have OT := Lib.hid hot; have KWT := Lib.hid KT0
            have hi2 : i ≤ n2 := by omega
            clear hi hpp hot KT0
            by_cases hil : i < n2
            · obtain ⟨q, hq⟩ : ∃ q, L.length = q + 1 := ⟨L.length - 1, by omega⟩
              obtain ⟨j, hj⟩ : ∃ j, q = i + j := ⟨q - i, by omega⟩
              have hPl : P2.length = L.length := by rw [PP.out.length_eq]; exact PL.out
              rcases row_form OT.out with ⟨h, _⟩ | ⟨g', c', e, _, hgb, _, hcc⟩
              · cases h
              simp only [Value.slice.injEq, Option.some.injEq, Addr.mk.injEq, and_true, true_and] at e
              obtain ⟨rfl, rfl⟩ := e
              have hsw := perm_swap P2 (show i < P2.length by omega) (show j < P2.length by omega)
              obtain ⟨pi, hpi⟩ : ∃ p, nth P2 i = p := ⟨_, rfl⟩
              obtain ⟨pj, hpj⟩ : ∃ p, nth P2 j = p := ⟨_, rfl⟩
              have mi : pi ∈ P := PP.out.mem_iff.1 (hpi ▸ nth_mem (by omega))
              have mj : pj ∈ P := PP.out.mem_iff.1 (hpj ▸ nth_mem (by omega))
              obtain ⟨ui, Ri⟩ := pi
              obtain ⟨uj, Rj⟩ := pj
              obtain ⟨ai, ci, ei, _⟩ := PR.out _ mi
              obtain ⟨aj, cj, ej, _⟩ := PR.out _ mj
              simp only at ei ej
              subst ei ej
              have hci := hcc i (.slice ai Ri.length ci) (by rw [List.getElem?_map, nth_get P2 (by omega), hpi]; rfl)
              have hcj := hcc j (.slice aj Rj.length cj) (by rw [List.getElem?_map, nth_get P2 (by omega), hpj]; rfl)
              have hfin : ((wr.setCell ⟨g6, i, none⟩ (.slice aj Rj.length cj)).setCell ⟨g6, j, none⟩ (.slice ai Ri.length ci)).ownsRow wz.heap.size 25 1 (.slice (some ⟨g6, 0, none⟩) L.length cap6) L.length ((swapL P2 i j).map (·.1)) := by
                have := ((OT.out.stored i (.slice aj Rj.length cj)).1.stored j (.slice ai Ri.length ci)).1
                unfold swapL; rw [List.map_set, List.map_set, hpi, hpj]; exact this
              have hKK : Kept (fun b => wz.heap.size ≤ b) wz ((wr.setCell ⟨g6, i, none⟩ (.slice aj Rj.length cj)).setCell ⟨g6, j, none⟩ (.slice ai Ri.length ci)) := Kept.setAt (fun _ => hgb) (Kept.setAt (fun _ => hgb) KWT.out)
              have hfz := fun j => OT.out.frozenAt j
              have FIN := Lib.hid hfin; have KK := Lib.hid hKK; have SW := Lib.hid (hsw.trans PP.out)
              have i1 : (0 : Int) ≤ (i : Int) := by omega
              have i2 : (i : Int) < (L.length : Int) := by omega
              have i3 : (0 : Int) ≤ (j : Int) := by omega
              have i4 : (j : Int) < (L.length : Int) := by omega
              have i5 : (i : Int) < (n2 : Int) := by omega
              have i6 : ¬ i = j := by omega
              have i7 : ¬ j = i := by omega
              have e3 : IntKind.i64.wrap ((L.length : Int) - 1) = (q : Int) := by rw [show (L.length : Int) - 1 = (q : Int) by omega]; exact IntWalk.i64_in _ (by omega)
              have e4 : IntKind.i64.wrap ((q : Int) - (i : Int)) = (j : Int) := by rw [show (q : Int) - (i : Int) = (j : Int) by omega]; exact IntWalk.i64_in _ (by omega)
              clear hcc hgb hpi hpj mi mj hfin hKK hsw hj hq
              go_wp2
              go_region
              all_goals go_wp2
              all_goals go_roundg (n2 - i - 1)
              case measure => have := JI.out; omega
              case rel => exact ⟨i + 1, swapL P2 i j, by omega, by go_num, SW.out, FIN.out.drew, KK.out.drew⟩
            · have e5 : ¬ (i : Int) < (n2 : Int) := by omega
              have KT := Lib.hid (KWT.out.below (fun _ hk h => by omega) : Below wz.heap.size wz wr)
              have HT := Lib.hid (show ReadsR wr (.slice (some ⟨g6, 0, none⟩) L.length cap6) (P2.map (·.2)) from rows_of (by rw [PP.out.length_eq]; exact PL.out) OT.out (fun p hp => (PR.out p (PP.out.mem_iff.1 hp)).below KT.out (Nat.le_refl _)))
              have HF := Lib.hid (turned_facts AL.out SM.out (show (P2.map (·.2)).Perm L from PS.out ▸ PP.out.map _))
              have RMt := Lib.hid ((R1.out.keptF KF.out).below KT.out (Nat.le_refl _))
              go_wp2_with fail
              refine (all_any wr _ (P2.map (·.2)) HT.out (by rw [HF.out.2.2.2.1]; omega) (fun R hR => LR.out R (HF.out.2.2.1 R hR)) (by rw [HF.out.2.2.2.2]; exact LT.out)).mono ?_
              rintro e w7 ⟨k7, ⟨h7, _⟩ | ⟨_, u7, rfl, o7⟩⟩
              · rw [HF.out.1] at h7; cases h7
              rw [HF.out.2.1] at o7
              obtain ⟨a7, m7, c7, rfl⟩ := own_shape o7
              have K7 := Lib.hid k7; have Q7 := Lib.hid (ReadsC.of_row o7); have RM7 := Lib.hid (RMt.out.keptF k7)
              clear k7 o7
              go_wp2_with fail
              refine (same_yes w7 _ _ (mergeL L) RM7.out Q7.out (by have := MLE.out; omega)).mono ?_
              rintro e w8 ⟨rfl, k8⟩
              have K8 := Lib.hid k8; have RM8 := Lib.hid (RM7.out.keptF k8); clear k8
              go_wp2_with fail
              refine (bsorted_any w8 _ (mergeL L) RM8.out (by have := MLE.out; omega)).mono ?_
              rw [SM2.out]
              rintro e w9 ⟨rfl, k9⟩
              have K9 := Lib.hid k9; clear k9
              go_wp2_with fail
              refine (does_any w9).mono ?_
              rintro e w10 ⟨rfl, k10⟩
              have K10 := Lib.hid (keptFF (keptFF K7.out K8.out) (keptFF K9.out k10)); clear k10
              go_wp2
              go_ret
              exact ⟨rfl, (((keptFF K1.out KF.out).below (fun _ _ f => f)).trans (KT.out.mono (keptFF K1.out KF.out).size)).trans ((K10.out.below (fun _ _ f => f)).mono (Nat.le_trans (keptFF K1.out KF.out).size KWT.out.size))⟩
        · have PP := Lib.hid PP1.out
          have OT := Lib.hid O6.out
          have KWT := Lib.hid K6.out
          have KT := Lib.hid (KWT.out.below (fun _ hk h => by omega) : Below wz.heap.size wz w6)
          have HT := Lib.hid (show ReadsR w6 (.slice (some ⟨g6, 0, none⟩) L.length cap6) (P1.map (·.2)) from rows_of (by rw [PP.out.length_eq]; exact PL.out) OT.out (fun p hp => (PR.out p (PP.out.mem_iff.1 hp)).below KT.out (Nat.le_refl _)))
          have HF := Lib.hid (turned_facts AL.out SM.out (show (P1.map (·.2)).Perm L from PS.out ▸ PP.out.map _))
          have RMt := Lib.hid ((R1.out.keptF KF.out).below KT.out (Nat.le_refl _))
          go_wp2_with fail
          refine (all_any w6 _ (P1.map (·.2)) HT.out (by rw [HF.out.2.2.2.1]; omega) (fun R hR => LR.out R (HF.out.2.2.1 R hR)) (by rw [HF.out.2.2.2.2]; exact LT.out)).mono ?_
          rintro e w7 ⟨k7, ⟨h7, _⟩ | ⟨_, u7, rfl, o7⟩⟩
          · rw [HF.out.1] at h7; cases h7
          rw [HF.out.2.1] at o7
          obtain ⟨a7, m7, c7, rfl⟩ := own_shape o7
          have K7 := Lib.hid k7; have Q7 := Lib.hid (ReadsC.of_row o7); have RM7 := Lib.hid (RMt.out.keptF k7)
          clear k7 o7
          go_wp2_with fail
          refine (same_yes w7 _ _ (mergeL L) RM7.out Q7.out (by have := MLE.out; omega)).mono ?_
          rintro e w8 ⟨rfl, k8⟩
          have K8 := Lib.hid k8; have RM8 := Lib.hid (RM7.out.keptF k8); clear k8
          go_wp2_with fail
          refine (bsorted_any w8 _ (mergeL L) RM8.out (by have := MLE.out; omega)).mono ?_
          rw [SM2.out]
          rintro e w9 ⟨rfl, k9⟩
          have K9 := Lib.hid k9; clear k9
          go_wp2_with fail
          refine (does_any w9).mono ?_
          rintro e w10 ⟨rfl, k10⟩
          have K10 := Lib.hid (keptFF (keptFF K7.out K8.out) (keptFF K9.out k10)); clear k10
          go_wp2
          go_ret
          exact ⟨rfl, (((keptFF K1.out KF.out).below (fun _ _ f => f)).trans (KT.out.mono (keptFF K1.out KF.out).size)).trans ((K10.out.below (fun _ _ f => f)).mono (Nat.le_trans (keptFF K1.out KF.out).size KWT.out.size))⟩
end Go.Proofs.Ytfhpjopdndnmgaa
