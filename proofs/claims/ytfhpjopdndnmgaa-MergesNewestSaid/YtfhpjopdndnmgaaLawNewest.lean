/- MergesNewest, walked whole: at every input it returns true. -/
import Derived.Test.YtfhpjopdndnmgaaLawCount
namespace Go.Proofs.Ytfhpjopdndnmgaa
open Go.RowKit

def keyN : List Cel → Cel → Nat
  | [], _ => 0
  | x :: t, c => keyN t c + (if (x.k.toList == c.k.toList) = true then 1 else 0)
theorem keyN_append : ∀ (a b : List Cel) (c : Cel), keyN (a ++ b) c = keyN a c + keyN b c
  | [], b, c => by simp [keyN]
  | x :: t, b, c => by simp [keyN, keyN_append t b c]; omega
theorem keyN_le : ∀ (a : List Cel) (c : Cel), keyN a c ≤ a.length
  | [], c => by simp [keyN]
  | x :: t, c => by have := keyN_le t c; simp only [keyN, List.length_cons]; split <;> omega
theorem keyN_yes {F : List Cel} {j : Nat} {x c : Cel} (h : F[j]? = some x) (hk : (x.k.toList == c.k.toList) = true) : keyN (F.take (j + 1)) c = keyN (F.take j) c + 1 := by
  rw [List.take_add_one, h, keyN_append]; simp [keyN]; simpa using hk
theorem keyN_no {F : List Cel} {j : Nat} {x c : Cel} (h : F[j]? = some x) (hk : (x.k.toList == c.k.toList) = false) : keyN (F.take (j + 1)) c = keyN (F.take j) c := by
  rw [List.take_add_one, h, keyN_append]; simp [keyN]; simpa using hk
theorem keyN_zero : ∀ {F : List Cel} {c : Cel}, (∀ y ∈ F, ¬ y.k = c.k) → keyN F c = 0
  | [], _, _ => rfl
  | x :: t, c, h => by
    have h1 := keyN_zero (fun y hy => h y (List.mem_cons_of_mem _ hy))
    have h2 : ¬ (x.k.toList == c.k.toList) = true := fun e => h x List.mem_cons_self (bytes_eq (by simpa using e))
    simp only [keyN, h1, if_neg h2]
theorem keyN_one : ∀ {F : List Cel} {c : Cel}, F.Pairwise (fun a b => cmpS a.k b.k < 0) → (∃ x ∈ F, x.k = c.k) → keyN F c = 1
  | [], _, _, h => by obtain ⟨x, hx, _⟩ := h; cases hx
  | x :: t, c, hp, h => by
    have hp2 := List.pairwise_cons.1 hp
    by_cases e : x.k = c.k
    · have h0 : keyN t c = 0 := keyN_zero (fun y hy e2 => by
        have := hp2.1 y hy
        rw [e, ← e2, (cmpS_zero _ _).2 rfl] at this; omega)
      simp only [keyN, h0, e]; simp
    · obtain ⟨y, hy, hk⟩ := h
      rcases List.mem_cons.1 hy with rfl | hy
      · exact absurd hk e
      · have h1 := keyN_one hp2.2 ⟨y, hy, hk⟩
        have h2 : ¬ (x.k.toList == c.k.toList) = true := fun e2 => e (bytes_eq (by simpa using e2))
        simp only [keyN, h1, if_neg h2]
theorem cmpC_seq {x c : Cel} (hk : x.k = c.k) (h : cmpC x c ≤ 0) : c.s ≤ x.s := step_seq h (by rw [hk]; simp)
theorem countC_pos : ∀ {A : List Cel} {x : Cel}, x ∈ A → 0 < countC A x
  | [], _, h => by cases h
  | y :: t, x, h => by
    rcases List.mem_cons.1 h with rfl | h
    · simp only [countC, (eqC_true (a := x) (b := x)).2 rfl]; simp; omega
    · have := countC_pos h
      simp only [countC]; omega
/-- What the newest of all rows come to. -/
theorem newest_facts {L : List (List Cel)} (h : L.all sortedB = true) :
    (∀ c ∈ L.flatten, keyN (firstF (mergeL L)) c = 1 ∧ ∀ x ∈ firstF (mergeL L), x.k = c.k → c.s ≤ x.s) ∧ (∀ x ∈ firstF (mergeL L), x ∈ L.flatten) ∧ sortedB (firstF (mergeL L)) = true ∧ (firstF (mergeL L)).length ≤ total L := by
  have hw := merge_weak h
  have hp := merge_perm L
  obtain ⟨f1, f2, f3, _⟩ := first_facts _ (mergeL L) rfl hw
  refine ⟨fun c hc => ?_, fun x hx => hp.mem_iff.1 (f1.subset hx), (sorted_iff _).2 ⟨fun c hc => merge_may h c (f1.subset hc), first_strict hw⟩, ?_⟩
  · obtain ⟨z, hz, z1, z2⟩ := f2 c (hp.mem_iff.2 hc)
    refine ⟨keyN_one f3 ⟨z, hz, z1⟩, fun x hx hk => ?_⟩
    have : x = z := first_key hw hx hz (by rw [hk, z1])
    subst this
    exact cmpC_seq hk z2
  · have := f1.length_le
    rw [hp.length_eq, List.length_flatten] at this
    exact this

set_option maxRecDepth 100000 in
set_option maxHeartbeats 8000000 in
theorem mergesNewest_any (w : World) (v0 : Value) (L : List (List Cel)) (h : ReadsR w v0 L) (hlen : L.length ≤ 9223372036854775807) (hfit : ∀ R ∈ L, R.length ≤ 9223372036854775807 ∧ ∀ c ∈ R, c.k.size ≤ 9223372036854775807 ∧ c.v.size ≤ 9223372036854775807) :
    Calls Try.prog 6 #[v0] w fun e w' => e = .returned (.bool true) ∧ Below w.heap.size w w' := by
  have GA := Lib.hid (great_any w v0 L h hlen hfit)
  have H := Lib.hid h
  clear h hlen hfit
  have hor : greatB L = true ∨ greatB L = false := by cases greatB L <;> simp
  rcases hor with hg | hg
  · have G := Lib.hid hg; clear hg
    go_enter Try.func6, Try.ntmps6
    go_wp2_with (go_at_call 9; refine GA.out.mono ?_; rw [G.out]; rintro e w1 ⟨rfl, rfl⟩)
    go_ret
    exact ⟨rfl, Below.refl _ _⟩
  · have hf := greatB_false.1 hg
    have hL : L.length ≤ 20 := hf.2.1
    have hR : ∀ R ∈ L, R.length ≤ 1000 := fun R hr => by have := (hf.1 R hr).1; omega
    have ht : total L ≤ 300 := hf.2.2
    have G := Lib.hid hg; have LR := Lib.hid hR; have LT := Lib.hid (show total L ≤ 1000 by omega); have LL := Lib.hid (show L.length ≤ 50 by omega)
    have hfl : L.flatten.length = total L := by rw [List.length_flatten]; rfl
    have FL := Lib.hid hfl
    clear hg hf hR hfl
    obtain ⟨ao, cap, rfl, h⟩ := H.out
    have HR := Lib.hid h; clear h
    go_enter Try.func6, Try.ntmps6
    go_wp2_with fail
    refine GA.out.mono ?_
    rw [G.out]; rintro e w0 ⟨rfl, rfl⟩
    go_wp2_with fail
    refine (newest_any w _ L H.out LL.out LR.out LT.out).mono ?_
    rintro e w1 ⟨k1, ⟨h1, rfl⟩ | ⟨h1, u1, rfl, o1⟩⟩
    · have K1 := Lib.hid k1; clear k1 h1
      go_wp2_with fail
      refine (does_any w1).mono ?_
      rintro e w2 ⟨rfl, k2⟩
      have K2 := Lib.hid (keptFF K1.out k2); clear k2
      go_wp2
      go_ret
      exact ⟨rfl, K2.out.below (fun _ _ f => f)⟩
    obtain ⟨nf1, nf2, nf3, nf4⟩ := newest_facts h1
    obtain ⟨F, hF⟩ : ∃ F, firstF (mergeL L) = F := ⟨_, rfl⟩
    rw [hF] at nf1 nf2 nf3 nf4 o1
    have K1 := Lib.hid k1; have N1 := Lib.hid nf1; have N2 := Lib.hid nf2; have N3 := Lib.hid nf3; have R1 := Lib.hid (ReadsC.of_row o1)
    obtain ⟨ao1, cap1, he1, hr1⟩ := R1.out
    subst he1
    have RF := Lib.hid hr1
    have hFle : F.length ≤ 300 := by omega
    clear k1 nf1 nf2 nf3 nf4 o1 h1 hF hr1
    go_wp2
    go_loopg [5] L.length (fun gh t wr => ∃ k : Nat, k + gh = L.length ∧ t = .int .i64 k ∧ Kept (fun _ => False) w1 wr)
    case atStart => exact ⟨0, by omega, rfl, Kept.refl _ _⟩
    case round =>
      obtain ⟨k, hk, rfl, KW⟩ := hrel
      have hk1 : k ≤ L.length := by omega
      have JK := Lib.hid hk; have KF := Lib.hid KW
      clear hk KW
      by_cases hlt : k < L.length
      · rcases HR.out with h0 | ⟨g, o, rfl, hc⟩
        · rw [h0] at hlt; simp at hlt
        obtain ⟨R, hR⟩ : ∃ R, L[k]? = some R := ⟨_, List.getElem?_eq_getElem hlt⟩
        obtain ⟨uR, hu, aoR, cR, rfl, hru⟩ := hc k R hR
        have hrl := LR.out R (List.mem_of_getElem? hR)
        have RK := Lib.hid (List.mem_of_getElem? hR); have RU := Lib.hid hru
        have KWW := Lib.hid (keptFF K1.out KF.out)
        have u0 := KWW.out.cell hu (fun f => f)
        have U0 := Lib.hid hu
        have i1 : (0 : Int) ≤ (k : Int) := by omega
        have i2 : (k : Int) < (L.length : Int) := by omega
        clear hR hru hc hu
        go_wp2
        go_loopg [6] R.length (fun gh t wr => ∃ q : Nat, q + gh = R.length ∧ t = .int .i64 q ∧ Kept (fun _ => False) w1 wr)
        case atStart => exact ⟨0, by omega, rfl, KF.out⟩
        case round =>
          obtain ⟨q, hq, rfl, KQ⟩ := hrel
          have hq1 : q ≤ R.length := by omega
          have JQ := Lib.hid hq; have KFq := Lib.hid KQ
          have KWq := Lib.hid (keptFF K1.out KQ)
          have uk0 := KWq.out.cell U0.out (fun f => f)
          clear hq KQ u0
          by_cases hql : q < R.length
          · rcases RU.out with h0 | ⟨gR, oR, rfl, hcR⟩
            · rw [h0] at hql; simp at hql
            obtain ⟨c, hcq⟩ : ∃ c, R[q]? = some c := ⟨_, List.getElem?_eq_getElem hql⟩
            obtain ⟨a0, a1, _⟩ := ReadsC.at hcR hcq
            obtain ⟨nc1, nc2⟩ := N1.out c (List.mem_flatten.2 ⟨R, RK.out, List.mem_of_getElem? hcq⟩)
            have NC1 := Lib.hid nc1; have NC2 := Lib.hid nc2
            have i3 : (0 : Int) ≤ (q : Int) := by omega
            have i4 : (q : Int) < (R.length : Int) := by omega
            have A0 := Lib.hid a0; have A1 := Lib.hid a1
            clear hcR hcq a0 a1 nc1 nc2
            go_wp2
            go_loopg [7, 8] F.length (fun gh s t wr => ∃ j : Nat, j + gh = F.length ∧ s = .int .i64 (keyN (F.take j) c) ∧ t = .int .i64 j ∧ Kept (fun _ => False) w1 wr)
            case atStart => exact ⟨0, by omega, by simp [keyN], rfl, KFq.out⟩
            case round =>
              obtain ⟨j, hj, rfl, rfl, KJ⟩ := hrel
              have hj1 : j ≤ F.length := by omega
              obtain ⟨m, hm⟩ : ∃ m, keyN (F.take j) c = m := ⟨_, rfl⟩
              have hml : m ≤ 300 := by
                have h1 := keyN_le (F.take j) c
                rw [List.length_take] at h1; omega
              rw [hm]
              have JJ := Lib.hid hj; have KFj := Lib.hid KJ; have MC := Lib.hid hm
              have KWj := Lib.hid (keptFF K1.out KJ)
              have uk0 := KWj.out.cell U0.out (fun f => f)
              have c0 := KWj.out.cell A0.out (fun f => f)
              have c1 := KWj.out.cell A1.out (fun f => f)
              clear hj KJ hm
              by_cases hjl : j < F.length
              · rcases RF.out with h0 | ⟨gF, oF, rfl, hcF⟩
                · rw [h0] at hjl; simp at hjl
                obtain ⟨x, hxj⟩ : ∃ x, F[j]? = some x := ⟨_, List.getElem?_eq_getElem hjl⟩
                obtain ⟨d0, d1, _⟩ := ReadsC.at hcF hxj
                have x0 := KFj.out.cell d0 (fun f => f)
                have x1 := KFj.out.cell d1 (fun f => f)
                have XJ := Lib.hid hxj
                have i5 : (0 : Int) ≤ (j : Int) := by omega
                have i6 : (j : Int) < (F.length : Int) := by omega
                have hor : (x.k.toList == c.k.toList) = true ∨ (x.k.toList == c.k.toList) = false := by cases (x.k.toList == c.k.toList) <;> simp
                clear hcF hxj d0 d1
                rcases hor with he | he
                · have hs2 : decide (x.s < c.s) = false := by
                    have := NC2.out x (List.mem_of_getElem? XJ.out) (bytes_eq (by simpa using he))
                    simp; omega
                  have CT := Lib.hid (keyN_yes XJ.out he)
                  rw [MC.out] at CT
                  go_wp2
                  refine wp_region_held_drew (S := (fun w' => w'.cell? ⟨gF, oF + j * 3, none⟩ = some (.string x.k) ∧ w'.cell? ⟨g, o + k, none⟩ = some (.slice (some ⟨gR, oR, none⟩) R.length cR) ∧ w'.cell? ⟨gR, oR + q * 3, none⟩ = some (.string c.k))) (by kernel_rfl) ?_ (fun hHeld => ?_)
                  · exact ⟨x0, uk0, c0⟩
                  refine wpAnyH_take (i := 0) (v := ?_) opAt0 (by kernel_rfl) (by kernel_rfl) (by kernel_rfl) (fun _ _ _ h => h) (Or.inl ⟨by rfl, ?_⟩) hHeld ?_
                  case refine_2 => (intro w hSw; (try dsimp only at hSw); go_simp; all_goals (with_reducible rfl))
                  (try simp only [Act.put]); (try simp only [List.setIfInBounds_toArray]); (try simp only [List.set_cons_succ]); (try simp only [List.set_cons_zero])
                  refine wpAnyH_take (i := 1) (v := ?_) opAt1 (by kernel_rfl) (by kernel_rfl) (by kernel_rfl) (fun _ _ _ h => h) (Or.inl ⟨by rfl, ?_⟩) hHeld ?_
                  case refine_2 => (intro w hSw; (try dsimp only at hSw); go_simp; all_goals (with_reducible rfl))
                  (try simp only [Act.put]); (try simp only [List.setIfInBounds_toArray]); (try simp only [List.set_cons_succ]); (try simp only [List.set_cons_zero])
                  refine wpAnyH_take (i := 2) (v := ?_) opAt2 (by kernel_rfl) (by kernel_rfl) (by kernel_rfl) (fun _ _ _ h => h) (Or.inl ⟨by rfl, ?_⟩) hHeld ?_
                  case refine_2 => (intro w hSw; (try dsimp only at hSw); go_simp; all_goals (with_reducible rfl))
                  (try simp only [Act.put]); (try simp only [List.setIfInBounds_toArray]); (try simp only [List.set_cons_succ]); (try simp only [List.set_cons_zero])
                  refine wpAnyH_take (i := 3) (v := ?_) opAt3 (by kernel_rfl) (by kernel_rfl) (by kernel_rfl) (fun _ _ _ h => h) (Or.inl ⟨by rfl, ?_⟩) hHeld ?_
                  case refine_2 => (intro w hSw; (try dsimp only at hSw); go_simp; all_goals (with_reducible rfl))
                  (try simp only [Act.put]); (try simp only [List.setIfInBounds_toArray]); (try simp only [List.set_cons_succ]); (try simp only [List.set_cons_zero])
                  refine wpAnyH_take (i := 4) (v := ?_) opAt4 (by kernel_rfl) (by kernel_rfl) (by kernel_rfl) (fun _ _ _ h => h) (Or.inl ⟨by rfl, ?_⟩) hHeld ?_
                  case refine_2 => (intro w hSw; (try dsimp only at hSw); go_simp; all_goals (with_reducible rfl))
                  (try simp only [Act.put]); (try simp only [List.setIfInBounds_toArray]); (try simp only [List.set_cons_succ]); (try simp only [List.set_cons_zero])
                  refine wpAnyH_take (i := 5) (v := ?_) opAt5 (by kernel_rfl) (by kernel_rfl) (by kernel_rfl) (fun _ _ _ h => h) (Or.inl ⟨by rfl, ?_⟩) hHeld ?_
                  case refine_2 => (intro w hSw; (try dsimp only at hSw); go_simp; all_goals (with_reducible rfl))
                  (try simp only [Act.put]); (try simp only [List.setIfInBounds_toArray]); (try simp only [List.set_cons_succ]); (try simp only [List.set_cons_zero])
                  refine wpAnyH_take (i := 6) (v := ?_) opAt6 (by kernel_rfl) (by kernel_rfl) (by kernel_rfl) (fun _ _ _ h => h) (Or.inl ⟨by rfl, ?_⟩) hHeld ?_
                  case refine_2 => (intro w hSw; (try dsimp only at hSw); go_simp; all_goals (with_reducible rfl))
                  (try simp only [Act.put]); (try simp only [List.setIfInBounds_toArray]); (try simp only [List.set_cons_succ]); (try simp only [List.set_cons_zero])
                  refine wpAnyH_take (i := 7) (v := ?_) opAt7 (by kernel_rfl) (by kernel_rfl) (by kernel_rfl) (fun _ _ _ h => h) (Or.inl ⟨by rfl, ?_⟩) hHeld ?_
                  case refine_2 => (intro w hSw; (try dsimp only at hSw); go_simp; all_goals (with_reducible rfl))
                  (try simp only [Act.put]); (try simp only [List.setIfInBounds_toArray]); (try simp only [List.set_cons_succ]); (try simp only [List.set_cons_zero])
                  refine wpAnyH_take (i := 8) (v := ?_) opAt8 (by kernel_rfl) (by kernel_rfl) (by kernel_rfl) (fun _ _ _ h => h) (Or.inl ⟨by rfl, ?_⟩) hHeld ?_
                  case refine_2 => (intro w hSw; (try dsimp only at hSw); go_simp; all_goals (with_reducible rfl))
                  (try simp only [Act.put]); (try simp only [List.setIfInBounds_toArray]); (try simp only [List.set_cons_succ]); (try simp only [List.set_cons_zero])
                  refine wpAnyH_take (i := 9) (v := ?_) opAt9 (by kernel_rfl) (by kernel_rfl) (by kernel_rfl) (fun _ _ _ h => h) (Or.inl ⟨by rfl, ?_⟩) hHeld ?_
                  case refine_2 => (intro w hSw; (try dsimp only at hSw); go_simp; all_goals (with_reducible rfl))
                  (try simp only [Act.put]); (try simp only [List.setIfInBounds_toArray]); (try simp only [List.set_cons_succ]); (try simp only [List.set_cons_zero])
                  refine wpAnyH_take (i := 10) (v := ?_) opAt10 (by kernel_rfl) (by kernel_rfl) (by kernel_rfl) (fun _ _ _ h => h) (Or.inl ⟨by rfl, ?_⟩) hHeld ?_
                  case refine_2 => (intro w hSw; (try dsimp only at hSw); go_simp; all_goals (with_reducible rfl))
                  (try simp only [Act.put]); (try simp only [List.setIfInBounds_toArray]); (try simp only [List.set_cons_succ]); (try simp only [List.set_cons_zero])
                  refine wpAnyH_take (i := 11) (v := ?_) opAt11 (by kernel_rfl) (by kernel_rfl) (by kernel_rfl) (fun _ _ _ h => h) (Or.inl ⟨by rfl, ?_⟩) hHeld ?_
                  case refine_2 => (intro w hSw; (try dsimp only at hSw); go_simp; all_goals (with_reducible rfl))
                  (try simp only [Act.put]); (try simp only [List.setIfInBounds_toArray]); (try simp only [List.set_cons_succ]); (try simp only [List.set_cons_zero])
                  refine wpAnyH_take (i := 12) (v := ?_) opAt12 (by kernel_rfl) (by kernel_rfl) (by kernel_rfl) (fun _ _ _ h => h) (Or.inl ⟨by rfl, ?_⟩) hHeld ?_
                  case refine_2 => (intro w hSw; (try dsimp only at hSw); go_simp; all_goals (with_reducible rfl))
                  (try simp only [Act.put]); (try simp only [List.setIfInBounds_toArray]); (try simp only [List.set_cons_succ]); (try simp only [List.set_cons_zero])
                  refine wpAnyH_take (i := 13) (v := ?_) opAt13 (by kernel_rfl) (by kernel_rfl) (by kernel_rfl) (fun _ _ _ h => h) (Or.inl ⟨by rfl, ?_⟩) hHeld ?_
                  case refine_2 => (intro w hSw; (try dsimp only at hSw); go_simp; all_goals (with_reducible rfl))
                  (try simp only [Act.put]); (try simp only [List.setIfInBounds_toArray]); (try simp only [List.set_cons_succ]); (try simp only [List.set_cons_zero])
                  refine wpAnyH_done (by kernel_rfl) ?_ _
                  go_wp2
                  refine wp_region_held_drew (S := (fun w' => w'.cell? ⟨gF, oF + j * 3 + 1, none⟩ = some (.int .i64 x.s) ∧ w'.cell? ⟨g, o + k, none⟩ = some (.slice (some ⟨gR, oR, none⟩) R.length cR) ∧ w'.cell? ⟨gR, oR + q * 3 + 1, none⟩ = some (.int .i64 c.s))) (by kernel_rfl) ?_ (fun hHeld => ?_)
                  · exact ⟨x1, uk0, c1⟩
                  refine wpAnyH_take (i := 0) (v := ?_) opAt0 (by kernel_rfl) (by kernel_rfl) (by kernel_rfl) (fun _ _ _ h => h) (Or.inl ⟨by rfl, ?_⟩) hHeld ?_
                  case refine_2 => (intro w hSw; (try dsimp only at hSw); go_simp; all_goals (with_reducible rfl))
                  (try simp only [Act.put]); (try simp only [List.setIfInBounds_toArray]); (try simp only [List.set_cons_succ]); (try simp only [List.set_cons_zero])
                  refine wpAnyH_take (i := 1) (v := ?_) opAt1 (by kernel_rfl) (by kernel_rfl) (by kernel_rfl) (fun _ _ _ h => h) (Or.inl ⟨by rfl, ?_⟩) hHeld ?_
                  case refine_2 => (intro w hSw; (try dsimp only at hSw); go_simp; all_goals (with_reducible rfl))
                  (try simp only [Act.put]); (try simp only [List.setIfInBounds_toArray]); (try simp only [List.set_cons_succ]); (try simp only [List.set_cons_zero])
                  refine wpAnyH_take (i := 2) (v := ?_) opAt2 (by kernel_rfl) (by kernel_rfl) (by kernel_rfl) (fun _ _ _ h => h) (Or.inl ⟨by rfl, ?_⟩) hHeld ?_
                  case refine_2 => (intro w hSw; (try dsimp only at hSw); go_simp; all_goals (with_reducible rfl))
                  (try simp only [Act.put]); (try simp only [List.setIfInBounds_toArray]); (try simp only [List.set_cons_succ]); (try simp only [List.set_cons_zero])
                  refine wpAnyH_take (i := 3) (v := ?_) opAt3 (by kernel_rfl) (by kernel_rfl) (by kernel_rfl) (fun _ _ _ h => h) (Or.inl ⟨by rfl, ?_⟩) hHeld ?_
                  case refine_2 => (intro w hSw; (try dsimp only at hSw); go_simp; all_goals (with_reducible rfl))
                  (try simp only [Act.put]); (try simp only [List.setIfInBounds_toArray]); (try simp only [List.set_cons_succ]); (try simp only [List.set_cons_zero])
                  refine wpAnyH_take (i := 4) (v := ?_) opAt4 (by kernel_rfl) (by kernel_rfl) (by kernel_rfl) (fun _ _ _ h => h) (Or.inl ⟨by rfl, ?_⟩) hHeld ?_
                  case refine_2 => (intro w hSw; (try dsimp only at hSw); go_simp; all_goals (with_reducible rfl))
                  (try simp only [Act.put]); (try simp only [List.setIfInBounds_toArray]); (try simp only [List.set_cons_succ]); (try simp only [List.set_cons_zero])
                  refine wpAnyH_take (i := 5) (v := ?_) opAt5 (by kernel_rfl) (by kernel_rfl) (by kernel_rfl) (fun _ _ _ h => h) (Or.inl ⟨by rfl, ?_⟩) hHeld ?_
                  case refine_2 => (intro w hSw; (try dsimp only at hSw); go_simp; all_goals (with_reducible rfl))
                  (try simp only [Act.put]); (try simp only [List.setIfInBounds_toArray]); (try simp only [List.set_cons_succ]); (try simp only [List.set_cons_zero])
                  refine wpAnyH_take (i := 6) (v := ?_) opAt6 (by kernel_rfl) (by kernel_rfl) (by kernel_rfl) (fun _ _ _ h => h) (Or.inl ⟨by rfl, ?_⟩) hHeld ?_
                  case refine_2 => (intro w hSw; (try dsimp only at hSw); go_simp; all_goals (with_reducible rfl))
                  (try simp only [Act.put]); (try simp only [List.setIfInBounds_toArray]); (try simp only [List.set_cons_succ]); (try simp only [List.set_cons_zero])
                  refine wpAnyH_take (i := 7) (v := ?_) opAt7 (by kernel_rfl) (by kernel_rfl) (by kernel_rfl) (fun _ _ _ h => h) (Or.inl ⟨by rfl, ?_⟩) hHeld ?_
                  case refine_2 => (intro w hSw; (try dsimp only at hSw); go_simp; all_goals (with_reducible rfl))
                  (try simp only [Act.put]); (try simp only [List.setIfInBounds_toArray]); (try simp only [List.set_cons_succ]); (try simp only [List.set_cons_zero])
                  refine wpAnyH_take (i := 8) (v := ?_) opAt8 (by kernel_rfl) (by kernel_rfl) (by kernel_rfl) (fun _ _ _ h => h) (Or.inl ⟨by rfl, ?_⟩) hHeld ?_
                  case refine_2 => (intro w hSw; (try dsimp only at hSw); go_simp; all_goals (with_reducible rfl))
                  (try simp only [Act.put]); (try simp only [List.setIfInBounds_toArray]); (try simp only [List.set_cons_succ]); (try simp only [List.set_cons_zero])
                  refine wpAnyH_take (i := 9) (v := ?_) opAt9 (by kernel_rfl) (by kernel_rfl) (by kernel_rfl) (fun _ _ _ h => h) (Or.inl ⟨by rfl, ?_⟩) hHeld ?_
                  case refine_2 => (intro w hSw; (try dsimp only at hSw); go_simp; all_goals (with_reducible rfl))
                  (try simp only [Act.put]); (try simp only [List.setIfInBounds_toArray]); (try simp only [List.set_cons_succ]); (try simp only [List.set_cons_zero])
                  refine wpAnyH_take (i := 10) (v := ?_) opAt10 (by kernel_rfl) (by kernel_rfl) (by kernel_rfl) (fun _ _ _ h => h) (Or.inl ⟨by rfl, ?_⟩) hHeld ?_
                  case refine_2 => (intro w hSw; (try dsimp only at hSw); go_simp; all_goals (with_reducible rfl))
                  (try simp only [Act.put]); (try simp only [List.setIfInBounds_toArray]); (try simp only [List.set_cons_succ]); (try simp only [List.set_cons_zero])
                  refine wpAnyH_take (i := 11) (v := ?_) opAt11 (by kernel_rfl) (by kernel_rfl) (by kernel_rfl) (fun _ _ _ h => h) (Or.inl ⟨by rfl, ?_⟩) hHeld ?_
                  case refine_2 => (intro w hSw; (try dsimp only at hSw); go_simp; all_goals (with_reducible rfl))
                  (try simp only [Act.put]); (try simp only [List.setIfInBounds_toArray]); (try simp only [List.set_cons_succ]); (try simp only [List.set_cons_zero])
                  refine wpAnyH_take (i := 12) (v := ?_) opAt12 (by kernel_rfl) (by kernel_rfl) (by kernel_rfl) (fun _ _ _ h => h) (Or.inl ⟨by rfl, ?_⟩) hHeld ?_
                  case refine_2 => (intro w hSw; (try dsimp only at hSw); go_simp; all_goals (with_reducible rfl))
                  (try simp only [Act.put]); (try simp only [List.setIfInBounds_toArray]); (try simp only [List.set_cons_succ]); (try simp only [List.set_cons_zero])
                  refine wpAnyH_take (i := 13) (v := ?_) opAt13 (by kernel_rfl) (by kernel_rfl) (by kernel_rfl) (fun _ _ _ h => h) (Or.inl ⟨by rfl, ?_⟩) hHeld ?_
                  case refine_2 => (intro w hSw; (try dsimp only at hSw); go_simp; all_goals (with_reducible rfl))
                  (try simp only [Act.put]); (try simp only [List.setIfInBounds_toArray]); (try simp only [List.set_cons_succ]); (try simp only [List.set_cons_zero])
                  refine wpAnyH_done (by kernel_rfl) ?_ _
                  go_wp2
                  go_roundg (F.length - j - 1)
                  case measure => have := JJ.out; omega
                  case rel => exact ⟨j + 1, by omega, by rw [CT.out]; congr 1, by go_num, KFj.out.drew.drew⟩
                · have CT := Lib.hid (keyN_no XJ.out he)
                  rw [MC.out] at CT
                  go_wp2
                  refine wp_region_held_drew (S := (fun w' => w'.cell? ⟨gF, oF + j * 3, none⟩ = some (.string x.k) ∧ w'.cell? ⟨g, o + k, none⟩ = some (.slice (some ⟨gR, oR, none⟩) R.length cR) ∧ w'.cell? ⟨gR, oR + q * 3, none⟩ = some (.string c.k))) (by kernel_rfl) ?_ (fun hHeld => ?_)
                  · exact ⟨x0, uk0, c0⟩
                  refine wpAnyH_take (i := 0) (v := ?_) opAt0 (by kernel_rfl) (by kernel_rfl) (by kernel_rfl) (fun _ _ _ h => h) (Or.inl ⟨by rfl, ?_⟩) hHeld ?_
                  case refine_2 => (intro w hSw; (try dsimp only at hSw); go_simp; all_goals (with_reducible rfl))
                  (try simp only [Act.put]); (try simp only [List.setIfInBounds_toArray]); (try simp only [List.set_cons_succ]); (try simp only [List.set_cons_zero])
                  refine wpAnyH_take (i := 1) (v := ?_) opAt1 (by kernel_rfl) (by kernel_rfl) (by kernel_rfl) (fun _ _ _ h => h) (Or.inl ⟨by rfl, ?_⟩) hHeld ?_
                  case refine_2 => (intro w hSw; (try dsimp only at hSw); go_simp; all_goals (with_reducible rfl))
                  (try simp only [Act.put]); (try simp only [List.setIfInBounds_toArray]); (try simp only [List.set_cons_succ]); (try simp only [List.set_cons_zero])
                  refine wpAnyH_take (i := 2) (v := ?_) opAt2 (by kernel_rfl) (by kernel_rfl) (by kernel_rfl) (fun _ _ _ h => h) (Or.inl ⟨by rfl, ?_⟩) hHeld ?_
                  case refine_2 => (intro w hSw; (try dsimp only at hSw); go_simp; all_goals (with_reducible rfl))
                  (try simp only [Act.put]); (try simp only [List.setIfInBounds_toArray]); (try simp only [List.set_cons_succ]); (try simp only [List.set_cons_zero])
                  refine wpAnyH_take (i := 3) (v := ?_) opAt3 (by kernel_rfl) (by kernel_rfl) (by kernel_rfl) (fun _ _ _ h => h) (Or.inl ⟨by rfl, ?_⟩) hHeld ?_
                  case refine_2 => (intro w hSw; (try dsimp only at hSw); go_simp; all_goals (with_reducible rfl))
                  (try simp only [Act.put]); (try simp only [List.setIfInBounds_toArray]); (try simp only [List.set_cons_succ]); (try simp only [List.set_cons_zero])
                  refine wpAnyH_take (i := 4) (v := ?_) opAt4 (by kernel_rfl) (by kernel_rfl) (by kernel_rfl) (fun _ _ _ h => h) (Or.inl ⟨by rfl, ?_⟩) hHeld ?_
                  case refine_2 => (intro w hSw; (try dsimp only at hSw); go_simp; all_goals (with_reducible rfl))
                  (try simp only [Act.put]); (try simp only [List.setIfInBounds_toArray]); (try simp only [List.set_cons_succ]); (try simp only [List.set_cons_zero])
                  refine wpAnyH_take (i := 5) (v := ?_) opAt5 (by kernel_rfl) (by kernel_rfl) (by kernel_rfl) (fun _ _ _ h => h) (Or.inl ⟨by rfl, ?_⟩) hHeld ?_
                  case refine_2 => (intro w hSw; (try dsimp only at hSw); go_simp; all_goals (with_reducible rfl))
                  (try simp only [Act.put]); (try simp only [List.setIfInBounds_toArray]); (try simp only [List.set_cons_succ]); (try simp only [List.set_cons_zero])
                  refine wpAnyH_take (i := 6) (v := ?_) opAt6 (by kernel_rfl) (by kernel_rfl) (by kernel_rfl) (fun _ _ _ h => h) (Or.inl ⟨by rfl, ?_⟩) hHeld ?_
                  case refine_2 => (intro w hSw; (try dsimp only at hSw); go_simp; all_goals (with_reducible rfl))
                  (try simp only [Act.put]); (try simp only [List.setIfInBounds_toArray]); (try simp only [List.set_cons_succ]); (try simp only [List.set_cons_zero])
                  refine wpAnyH_take (i := 7) (v := ?_) opAt7 (by kernel_rfl) (by kernel_rfl) (by kernel_rfl) (fun _ _ _ h => h) (Or.inl ⟨by rfl, ?_⟩) hHeld ?_
                  case refine_2 => (intro w hSw; (try dsimp only at hSw); go_simp; all_goals (with_reducible rfl))
                  (try simp only [Act.put]); (try simp only [List.setIfInBounds_toArray]); (try simp only [List.set_cons_succ]); (try simp only [List.set_cons_zero])
                  refine wpAnyH_take (i := 8) (v := ?_) opAt8 (by kernel_rfl) (by kernel_rfl) (by kernel_rfl) (fun _ _ _ h => h) (Or.inl ⟨by rfl, ?_⟩) hHeld ?_
                  case refine_2 => (intro w hSw; (try dsimp only at hSw); go_simp; all_goals (with_reducible rfl))
                  (try simp only [Act.put]); (try simp only [List.setIfInBounds_toArray]); (try simp only [List.set_cons_succ]); (try simp only [List.set_cons_zero])
                  refine wpAnyH_take (i := 9) (v := ?_) opAt9 (by kernel_rfl) (by kernel_rfl) (by kernel_rfl) (fun _ _ _ h => h) (Or.inl ⟨by rfl, ?_⟩) hHeld ?_
                  case refine_2 => (intro w hSw; (try dsimp only at hSw); go_simp; all_goals (with_reducible rfl))
                  (try simp only [Act.put]); (try simp only [List.setIfInBounds_toArray]); (try simp only [List.set_cons_succ]); (try simp only [List.set_cons_zero])
                  refine wpAnyH_take (i := 10) (v := ?_) opAt10 (by kernel_rfl) (by kernel_rfl) (by kernel_rfl) (fun _ _ _ h => h) (Or.inl ⟨by rfl, ?_⟩) hHeld ?_
                  case refine_2 => (intro w hSw; (try dsimp only at hSw); go_simp; all_goals (with_reducible rfl))
                  (try simp only [Act.put]); (try simp only [List.setIfInBounds_toArray]); (try simp only [List.set_cons_succ]); (try simp only [List.set_cons_zero])
                  refine wpAnyH_take (i := 11) (v := ?_) opAt11 (by kernel_rfl) (by kernel_rfl) (by kernel_rfl) (fun _ _ _ h => h) (Or.inl ⟨by rfl, ?_⟩) hHeld ?_
                  case refine_2 => (intro w hSw; (try dsimp only at hSw); go_simp; all_goals (with_reducible rfl))
                  (try simp only [Act.put]); (try simp only [List.setIfInBounds_toArray]); (try simp only [List.set_cons_succ]); (try simp only [List.set_cons_zero])
                  refine wpAnyH_take (i := 12) (v := ?_) opAt12 (by kernel_rfl) (by kernel_rfl) (by kernel_rfl) (fun _ _ _ h => h) (Or.inl ⟨by rfl, ?_⟩) hHeld ?_
                  case refine_2 => (intro w hSw; (try dsimp only at hSw); go_simp; all_goals (with_reducible rfl))
                  (try simp only [Act.put]); (try simp only [List.setIfInBounds_toArray]); (try simp only [List.set_cons_succ]); (try simp only [List.set_cons_zero])
                  refine wpAnyH_take (i := 13) (v := ?_) opAt13 (by kernel_rfl) (by kernel_rfl) (by kernel_rfl) (fun _ _ _ h => h) (Or.inl ⟨by rfl, ?_⟩) hHeld ?_
                  case refine_2 => (intro w hSw; (try dsimp only at hSw); go_simp; all_goals (with_reducible rfl))
                  (try simp only [Act.put]); (try simp only [List.setIfInBounds_toArray]); (try simp only [List.set_cons_succ]); (try simp only [List.set_cons_zero])
                  refine wpAnyH_done (by kernel_rfl) ?_ _
                  go_wp2
                  go_roundg (F.length - j - 1)
                  case measure => have := JJ.out; omega
                  case rel => exact ⟨j + 1, by omega, by rw [CT.out], by go_num, KFj.out.drew⟩
              · have hj2 : j = F.length := by omega
                have e3 : ¬ (j : Int) < (F.length : Int) := by omega
                have hm1 : m = 1 := by rw [← MC.out, hj2, List.take_length]; exact NC1.out
                have KJJ := Lib.hid KFj.out
                subst hm1
                go_wp2
                go_roundg (R.length - q - 1)
                case measure => have := JQ.out; omega
                case rel => exact ⟨q + 1, by omega, by go_num, KFj.out⟩
          · have hq2 : q = R.length := by omega
            have e3 : ¬ (q : Int) < (R.length : Int) := by omega
            go_wp2
            go_roundg (L.length - k - 1)
            case measure => have := JK.out; omega
            case rel => exact ⟨k + 1, by omega, by go_num, KFq.out⟩
      · have hk2 : k = L.length := by omega
        have e3 : ¬ (k : Int) < (L.length : Int) := by omega
        clear hk2
        go_wp2
        go_loopg [9] F.length (fun gh t wr => ∃ j : Nat, j + gh = F.length ∧ t = .int .i64 j ∧ Kept (fun _ => False) w1 wr)
        case atStart => exact ⟨0, by omega, rfl, KF.out⟩
        case round =>
          obtain ⟨j, hj, rfl, KJ⟩ := hrel
          have hj1 : j ≤ F.length := by omega
          have JJ := Lib.hid hj; have KFj := Lib.hid KJ
          clear hj KJ
          by_cases hjl : j < F.length
          · rcases RF.out with h0 | ⟨gF, oF, rfl, hcF⟩
            · rw [h0] at hjl; simp at hjl
            obtain ⟨x, hxj⟩ : ∃ x, F[j]? = some x := ⟨_, List.getElem?_eq_getElem hjl⟩
            obtain ⟨d0, d1, d2⟩ := ReadsC.at hcF hxj
            have D0 := Lib.hid d0; have D1 := Lib.hid d1; have D2 := Lib.hid d2
            have hxp := countC_pos (N2.out x (List.mem_of_getElem? hxj))
            have XP := Lib.hid hxp
            have i5 : (0 : Int) ≤ (j : Int) := by omega
            have i6 : (j : Int) < (F.length : Int) := by omega
            clear hcF hxj d0 d1 d2 hxp
            go_wp2
            go_loopg [10, 11] L.length (fun gh s t wr => ∃ i : Nat, i + gh = L.length ∧ s = .bool (decide (0 < countC (L.take i).flatten x)) ∧ t = .int .i64 i ∧ Kept (fun _ => False) w1 wr)
            case atStart => exact ⟨0, by omega, by simp [countC], rfl, KFj.out⟩
            case round =>
              obtain ⟨i, hi, rfl, rfl, KI⟩ := hrel
              have hi1 : i ≤ L.length := by omega
              obtain ⟨b, hb⟩ : ∃ b, decide (0 < countC (L.take i).flatten x) = b := ⟨_, rfl⟩
              rw [hb]
              have JI := Lib.hid hi; have KFi := Lib.hid KI; have BC := Lib.hid hb
              have KWi := Lib.hid (keptFF K1.out KI)
              have x0 := KFi.out.cell D0.out (fun f => f)
              have x1 := KFi.out.cell D1.out (fun f => f)
              have x2 := KFi.out.cell D2.out (fun f => f)
              clear hi KI hb
              by_cases hil : i < L.length
              · rcases HR.out with h0 | ⟨g, o, rfl, hc⟩
                · rw [h0] at hil; simp at hil
                obtain ⟨Ri, hRi⟩ : ∃ R, L[i]? = some R := ⟨_, List.getElem?_eq_getElem hil⟩
                obtain ⟨ui, hui, hrui⟩ := hc i Ri hRi
                have ui0 := KWi.out.cell hui (fun f => f)
                have UI := Lib.hid (hrui.keptF KWi.out); have RIL := Lib.hid (LR.out Ri (List.mem_of_getElem? hRi))
                have hct : countC (L.take (i + 1)).flatten x = countC (L.take i).flatten x + countC Ri x := by rw [flat_take hRi, countC_append]
                have CT := Lib.hid hct
                have i7 : (0 : Int) ≤ (i : Int) := by omega
                have i8 : (i : Int) < (L.length : Int) := by omega
                clear hui hrui hct hRi hc
                cases b with
                | true =>
                  go_wp2
                  refine wp_region_held_drew (S := (fun w' => w'.cell? ⟨g, o + i, none⟩ = some ui ∧ w'.cell? ⟨gF, oF + j * 3, none⟩ = some (.string x.k) ∧ w'.cell? ⟨gF, oF + j * 3 + 1, none⟩ = some (.int .i64 x.s) ∧ w'.cell? ⟨gF, oF + j * 3 + 2, none⟩ = some (.string x.v))) (by kernel_rfl) ?_ (fun hHeld => ?_)
                  · exact ⟨ui0, x0, x1, x2⟩
                  refine wpAnyH_take (i := 0) (v := ?_) opAt0 (by kernel_rfl) (by kernel_rfl) (by kernel_rfl) (fun _ _ _ h => h) (Or.inl ⟨by rfl, ?_⟩) hHeld ?_
                  case refine_2 => (intro w hSw; (try dsimp only at hSw); go_simp; all_goals (with_reducible rfl))
                  (try simp only [Act.put]); (try simp only [List.setIfInBounds_toArray]); (try simp only [List.set_cons_succ]); (try simp only [List.set_cons_zero])
                  refine wpAnyH_take (i := 1) (v := ?_) opAt1 (by kernel_rfl) (by kernel_rfl) (by kernel_rfl) (fun _ _ _ h => h) (Or.inl ⟨by rfl, ?_⟩) hHeld ?_
                  case refine_2 => (intro w hSw; (try dsimp only at hSw); go_simp; all_goals (with_reducible rfl))
                  (try simp only [Act.put]); (try simp only [List.setIfInBounds_toArray]); (try simp only [List.set_cons_succ]); (try simp only [List.set_cons_zero])
                  refine wpAnyH_take (i := 2) opAt2 (by kernel_rfl) (by kernel_rfl) (by kernel_rfl) (fun _ _ _ h => h) (Or.inr ⟨by rfl, rfl⟩) hHeld ?_
                  (try simp only [Act.put]); (try simp only [List.setIfInBounds_toArray]); (try simp only [List.set_cons_succ]); (try simp only [List.set_cons_zero])
                  refine wpAnyH_take (i := 3) opAt3 (by kernel_rfl) (by kernel_rfl) (by kernel_rfl) (fun _ _ _ h => h) (Or.inr ⟨by rfl, rfl⟩) hHeld ?_
                  (try simp only [Act.put]); (try simp only [List.setIfInBounds_toArray]); (try simp only [List.set_cons_succ]); (try simp only [List.set_cons_zero])
                  refine wpAnyH_take (i := 4) opAt4 (by kernel_rfl) (by kernel_rfl) (by kernel_rfl) (fun _ _ _ h => h) (Or.inr ⟨by rfl, rfl⟩) hHeld ?_
                  (try simp only [Act.put]); (try simp only [List.setIfInBounds_toArray]); (try simp only [List.set_cons_succ]); (try simp only [List.set_cons_zero])
                  refine wpAnyH_take (i := 5) opAt5 (by kernel_rfl) (by kernel_rfl) (by kernel_rfl) (fun _ _ _ h => h) (Or.inr ⟨by rfl, rfl⟩) hHeld ?_
                  (try simp only [Act.put]); (try simp only [List.setIfInBounds_toArray]); (try simp only [List.set_cons_succ]); (try simp only [List.set_cons_zero])
                  refine wpAnyH_take (i := 6) opAt6 (by kernel_rfl) (by kernel_rfl) (by kernel_rfl) (fun _ _ _ h => h) (Or.inr ⟨by rfl, rfl⟩) hHeld ?_
                  (try simp only [Act.put]); (try simp only [List.setIfInBounds_toArray]); (try simp only [List.set_cons_succ]); (try simp only [List.set_cons_zero])
                  refine wpAnyH_take (i := 7) opAt7 (by kernel_rfl) (by kernel_rfl) (by kernel_rfl) (fun _ _ _ h => h) (Or.inr ⟨by rfl, rfl⟩) hHeld ?_
                  (try simp only [Act.put]); (try simp only [List.setIfInBounds_toArray]); (try simp only [List.set_cons_succ]); (try simp only [List.set_cons_zero])
                  refine wpAnyH_take (i := 8) opAt8 (by kernel_rfl) (by kernel_rfl) (by kernel_rfl) (fun _ _ _ h => h) (Or.inr ⟨by rfl, rfl⟩) hHeld ?_
                  (try simp only [Act.put]); (try simp only [List.setIfInBounds_toArray]); (try simp only [List.set_cons_succ]); (try simp only [List.set_cons_zero])
                  refine wpAnyH_take (i := 9) opAt9 (by kernel_rfl) (by kernel_rfl) (by kernel_rfl) (fun _ _ _ h => h) (Or.inr ⟨by rfl, rfl⟩) hHeld ?_
                  (try simp only [Act.put]); (try simp only [List.setIfInBounds_toArray]); (try simp only [List.set_cons_succ]); (try simp only [List.set_cons_zero])
                  refine wpAnyH_take (i := 10) opAt10 (by kernel_rfl) (by kernel_rfl) (by kernel_rfl) (fun _ _ _ h => h) (Or.inr ⟨by rfl, rfl⟩) hHeld ?_
                  (try simp only [Act.put]); (try simp only [List.setIfInBounds_toArray]); (try simp only [List.set_cons_succ]); (try simp only [List.set_cons_zero])
                  refine wpAnyH_take (i := 11) opAt11 (by kernel_rfl) (by kernel_rfl) (by kernel_rfl) (fun _ _ _ h => h) (Or.inr ⟨by rfl, rfl⟩) hHeld ?_
                  (try simp only [Act.put]); (try simp only [List.setIfInBounds_toArray]); (try simp only [List.set_cons_succ]); (try simp only [List.set_cons_zero])
                  refine wpAnyH_take (i := 12) (v := ?_) opAt12 (by kernel_rfl) (by kernel_rfl) (by kernel_rfl) (fun _ _ _ h => h) (Or.inl ⟨by rfl, ?_⟩) hHeld ?_
                  case refine_2 => (intro w hSw; (try dsimp only at hSw); go_simp; all_goals (with_reducible rfl))
                  (try simp only [Act.put]); (try simp only [List.setIfInBounds_toArray]); (try simp only [List.set_cons_succ]); (try simp only [List.set_cons_zero])
                  refine wpAnyH_take (i := 13) (v := ?_) opAt13 (by kernel_rfl) (by kernel_rfl) (by kernel_rfl) (fun _ _ _ h => h) (Or.inl ⟨by rfl, ?_⟩) hHeld ?_
                  case refine_2 => (intro w hSw; (try dsimp only at hSw); go_simp; all_goals (with_reducible rfl))
                  (try simp only [Act.put]); (try simp only [List.setIfInBounds_toArray]); (try simp only [List.set_cons_succ]); (try simp only [List.set_cons_zero])
                  refine wpAnyH_done (by kernel_rfl) ?_ _
                  go_wp2
                  go_roundg (L.length - i - 1)
                  case measure => have := JI.out; omega
                  case rel => exact ⟨i + 1, by omega, by have h := BC.out; simp only [decide_eq_true_eq] at h; rw [CT.out, decide_eq_true (show 0 < countC (L.take i).flatten x + countC Ri x by omega)], by go_num, KFi.out.drew⟩
                | false =>
                  go_wp2
                  refine wp_region_held_drew (S := (fun w' => w'.cell? ⟨g, o + i, none⟩ = some ui ∧ w'.cell? ⟨gF, oF + j * 3, none⟩ = some (.string x.k) ∧ w'.cell? ⟨gF, oF + j * 3 + 1, none⟩ = some (.int .i64 x.s) ∧ w'.cell? ⟨gF, oF + j * 3 + 2, none⟩ = some (.string x.v))) (by kernel_rfl) ?_ (fun hHeld => ?_)
                  · exact ⟨ui0, x0, x1, x2⟩
                  refine wpAnyH_take (i := 0) (v := ?_) opAt0 (by kernel_rfl) (by kernel_rfl) (by kernel_rfl) (fun _ _ _ h => h) (Or.inl ⟨by rfl, ?_⟩) hHeld ?_
                  case refine_2 => (intro w hSw; (try dsimp only at hSw); go_simp; all_goals (with_reducible rfl))
                  (try simp only [Act.put]); (try simp only [List.setIfInBounds_toArray]); (try simp only [List.set_cons_succ]); (try simp only [List.set_cons_zero])
                  refine wpAnyH_take (i := 1) (v := ?_) opAt1 (by kernel_rfl) (by kernel_rfl) (by kernel_rfl) (fun _ _ _ h => h) (Or.inl ⟨by rfl, ?_⟩) hHeld ?_
                  case refine_2 => (intro w hSw; (try dsimp only at hSw); go_simp; all_goals (with_reducible rfl))
                  (try simp only [Act.put]); (try simp only [List.setIfInBounds_toArray]); (try simp only [List.set_cons_succ]); (try simp only [List.set_cons_zero])
                  refine wpAnyH_take (i := 2) (v := ?_) opAt2 (by kernel_rfl) (by kernel_rfl) (by kernel_rfl) (fun _ _ _ h => h) (Or.inl ⟨by rfl, ?_⟩) hHeld ?_
                  case refine_2 => (intro w hSw; (try dsimp only at hSw); go_simp; all_goals (with_reducible rfl))
                  (try simp only [Act.put]); (try simp only [List.setIfInBounds_toArray]); (try simp only [List.set_cons_succ]); (try simp only [List.set_cons_zero])
                  refine wpAnyH_take (i := 3) (v := ?_) opAt3 (by kernel_rfl) (by kernel_rfl) (by kernel_rfl) (fun _ _ _ h => h) (Or.inl ⟨by rfl, ?_⟩) hHeld ?_
                  case refine_2 => (intro w hSw; (try dsimp only at hSw); go_simp; all_goals (with_reducible rfl))
                  (try simp only [Act.put]); (try simp only [List.setIfInBounds_toArray]); (try simp only [List.set_cons_succ]); (try simp only [List.set_cons_zero])
                  refine wpAnyH_take (i := 4) (v := ?_) opAt4 (by kernel_rfl) (by kernel_rfl) (by kernel_rfl) (fun _ _ _ h => h) (Or.inl ⟨by rfl, ?_⟩) hHeld ?_
                  case refine_2 => (intro w hSw; (try dsimp only at hSw); go_simp; all_goals (with_reducible rfl))
                  (try simp only [Act.put]); (try simp only [List.setIfInBounds_toArray]); (try simp only [List.set_cons_succ]); (try simp only [List.set_cons_zero])
                  refine wpAnyH_take (i := 5) (v := ?_) opAt5 (by kernel_rfl) (by kernel_rfl) (by kernel_rfl) (fun _ _ _ h => h) (Or.inl ⟨by rfl, ?_⟩) hHeld ?_
                  case refine_2 => (intro w hSw; (try dsimp only at hSw); go_simp; all_goals (with_reducible rfl))
                  (try simp only [Act.put]); (try simp only [List.setIfInBounds_toArray]); (try simp only [List.set_cons_succ]); (try simp only [List.set_cons_zero])
                  refine wpAnyH_take (i := 6) (v := ?_) opAt6 (by kernel_rfl) (by kernel_rfl) (by kernel_rfl) (fun _ _ _ h => h) (Or.inl ⟨by rfl, ?_⟩) hHeld ?_
                  case refine_2 => (intro w hSw; (try dsimp only at hSw); go_simp; all_goals (with_reducible rfl))
                  (try simp only [Act.put]); (try simp only [List.setIfInBounds_toArray]); (try simp only [List.set_cons_succ]); (try simp only [List.set_cons_zero])
                  refine wpAnyH_take (i := 7) (v := ?_) opAt7 (by kernel_rfl) (by kernel_rfl) (by kernel_rfl) (fun _ _ _ h => h) (Or.inl ⟨by rfl, ?_⟩) hHeld ?_
                  case refine_2 => (intro w hSw; (try dsimp only at hSw); go_simp; all_goals (with_reducible rfl))
                  (try simp only [Act.put]); (try simp only [List.setIfInBounds_toArray]); (try simp only [List.set_cons_succ]); (try simp only [List.set_cons_zero])
                  refine wpAnyH_take (i := 8) (v := ?_) opAt8 (by kernel_rfl) (by kernel_rfl) (by kernel_rfl) (fun _ _ _ h => h) (Or.inl ⟨by rfl, ?_⟩) hHeld ?_
                  case refine_2 => (intro w hSw; (try dsimp only at hSw); go_simp; all_goals (with_reducible rfl))
                  (try simp only [Act.put]); (try simp only [List.setIfInBounds_toArray]); (try simp only [List.set_cons_succ]); (try simp only [List.set_cons_zero])
                  refine wpAnyH_take (i := 9) (v := ?_) opAt9 (by kernel_rfl) (by kernel_rfl) (by kernel_rfl) (fun _ _ _ h => h) (Or.inl ⟨by rfl, ?_⟩) hHeld ?_
                  case refine_2 => (intro w hSw; (try dsimp only at hSw); go_simp; all_goals (with_reducible rfl))
                  (try simp only [Act.put]); (try simp only [List.setIfInBounds_toArray]); (try simp only [List.set_cons_succ]); (try simp only [List.set_cons_zero])
                  refine wpAnyH_ready (rs := [10]) (by kernel_rfl) (by simp) ?_
                  refine AllReadyH.cons opAt10 (fun K hK => ?_) AllReadyH.nil
                  go_simp
                  go_at_call 20; refine (count_any _ ui Ri x (UI.out.keptF ((Kept.refl (fun _ => False) wr).drew)) RIL.out).mono ?_; rintro e w4 ⟨rfl, k4⟩; have K4 := Lib.hid (keptFF ((Kept.refl (fun _ => False) wr).drew) k4); have KC4 := Lib.hid k4; clear k4; dsimp only
                  refine hK.out _ _ ?_ (fun hHeld => ?_)
                  · exact ⟨KC4.out.cell hHeld.1 (fun f => f), KC4.out.cell hHeld.2.1 (fun f => f), KC4.out.cell hHeld.2.2.1 (fun f => f), KC4.out.cell hHeld.2.2.2 (fun f => f)⟩
                  clear hK K
                  (try simp only [Act.put]); (try simp only [List.setIfInBounds_toArray]); (try simp only [List.set_cons_succ]); (try simp only [List.set_cons_zero])
                  refine wpAnyH_take (i := 11) (v := ?_) opAt11 (by kernel_rfl) (by kernel_rfl) (by kernel_rfl) (fun _ _ _ h => h) (Or.inl ⟨by rfl, ?_⟩) hHeld ?_
                  case refine_2 => (intro w hSw; (try dsimp only at hSw); go_simp; all_goals (with_reducible rfl))
                  (try simp only [Act.put]); (try simp only [List.setIfInBounds_toArray]); (try simp only [List.set_cons_succ]); (try simp only [List.set_cons_zero])
                  refine wpAnyH_take (i := 12) (v := ?_) opAt12 (by kernel_rfl) (by kernel_rfl) (by kernel_rfl) (fun _ _ _ h => h) (Or.inl ⟨by rfl, ?_⟩) hHeld ?_
                  case refine_2 => (intro w hSw; (try dsimp only at hSw); go_simp; all_goals (with_reducible rfl))
                  (try simp only [Act.put]); (try simp only [List.setIfInBounds_toArray]); (try simp only [List.set_cons_succ]); (try simp only [List.set_cons_zero])
                  refine wpAnyH_take (i := 13) (v := ?_) opAt13 (by kernel_rfl) (by kernel_rfl) (by kernel_rfl) (fun _ _ _ h => h) (Or.inl ⟨by rfl, ?_⟩) hHeld ?_
                  case refine_2 => (intro w hSw; (try dsimp only at hSw); go_simp; all_goals (with_reducible rfl))
                  (try simp only [Act.put]); (try simp only [List.setIfInBounds_toArray]); (try simp only [List.set_cons_succ]); (try simp only [List.set_cons_zero])
                  refine wpAnyH_done (by kernel_rfl) ?_ _
                  go_wp2
                  go_roundg (L.length - i - 1)
                  case measure => have := JI.out; omega
                  case rel => exact ⟨i + 1, by omega, by have h := BC.out; simp only [decide_eq_false_iff_not] at h; rw [CT.out, show countC (L.take i).flatten x = 0 by omega, Nat.zero_add], by go_num, keptFF KFi.out K4.out⟩
              · have hi2 : i = L.length := by omega
                have e3 : ¬ (i : Int) < (L.length : Int) := by omega
                have hbt : b = true := by rw [← BC.out, hi2, List.take_length]; exact decide_eq_true XP.out
                subst hbt
                clear hi2
                go_wp2
                go_roundg (F.length - j - 1)
                case measure => have := JJ.out; omega
                case rel => exact ⟨j + 1, by omega, by go_num, KFi.out⟩
          · have e4 : ¬ (j : Int) < (F.length : Int) := by omega
            have BS := Lib.hid (bsorted_any wr _ F (R1.out.keptF KFj.out) (by omega))
            go_wp2_with fail
            refine BS.out.mono ?_
            rw [N3.out]
            rintro e w2 ⟨rfl, k2⟩
            have K2 := Lib.hid k2; clear k2
            go_wp2_with fail
            refine (does_any w2).mono ?_
            rintro e w3 ⟨rfl, k3⟩
            have K3 := Lib.hid (keptFF (keptFF (keptFF K1.out KFj.out) K2.out) k3); clear k3
            go_wp2
            go_ret
            exact ⟨rfl, K3.out.below (fun _ _ f => f)⟩
end Go.Proofs.Ytfhpjopdndnmgaa
