/- spoorlaw14.counts, TreesOnce. -/
import Derived.Test.YtjidldbolbjdpaaLawOf
import Derived.Test.YtjidldbolbjdpaaOnceP
namespace Go.Proofs.Ytjidldbolbjdpaa
open Go.RowKit

theorem rise_one : ∀ (l : List Spn) (y : Spn), Rise l → y ∈ l → l.countP (fun x => eqS x y) = 1
  | [], _, _, h => by cases h
  | x :: t, y, hr, h => by
    have a1 := List.pairwise_cons.1 hr
    rw [List.countP_cons]
    cases e : eqS x y with
    | true =>
      have e1 := (eqS_iff x y).1 e
      subst e1
      have : t.countP (fun z => eqS z x) = 0 := List.countP_eq_zero.2 (fun z hz => by
        have := a1.1 z hz
        intro e
        rw [(eqS_iff z x).1 e] at this; omega)
      simp [this]
    | false =>
      rcases List.mem_cons.1 h with f | f
      · exact absurd f.symm (eqS_false.1 e)
      · rw [rise_one t y a1.2 f]; simp

set_option maxHeartbeats 4000000 in
set_option maxRecDepth 100000 in
theorem counts_any (w : World) (v : Value) (L : List Spn) (i : Nat) (h : ReadsS w v L) (hl : L.length ≤ 1000) (hi : i < L.length) :
    Calls Try.prog 19 #[v, .int .i64 i] w fun e w' => e = .returned (.bool (cntB L i)) ∧ Kept (fun _ => False) w w' := by
  obtain ⟨ao, cap, rfl, rd⟩ := h
  obtain ⟨g, o, rfl, hc⟩ : ∃ g o, ao = some ⟨g, o, none⟩ ∧ ∀ j u, (cellsS L)[j]? = some u → w.cell? ⟨g, o + j, none⟩ = some u := by
    rcases rd with h | h
    · subst h; simp at hi
    · exact h
  obtain ⟨n, hn⟩ : ∃ n, L.length = n := ⟨_, rfl⟩
  obtain ⟨y, hy⟩ : ∃ y, nth L i = y := ⟨_, rfl⟩
  have gy := nth_get hi
  rw [hy] at gy
  have CS := Lib.hid (ReadsS.at hc gy).2.1
  rw [hn] at hl hi ⊢
  have i0 : (0 : Int) ≤ (i : Int) := by omega
  have i1 : (i : Int) < (n : Int) := by omega
  have HN := Lib.hid hn; have HY := Lib.hid hy; have HC := Lib.hid hc
  clear rd hn hy gy hc
  go_enter Try.func19, Try.ntmps19
  go_wp2
  go_loopg [5] i (fun ghv s wr => ∃ (k : Nat), k + ghv = i ∧ s = .int .i64 k ∧ (∀ t, t < k → (nth L t).id ≠ y.id) ∧ Kept (fun _ => False) w wr)
  case atStart => exact ⟨0, by omega, by go_num, fun t h => by omega, Kept.refl _ _⟩
  case round =>
    obtain ⟨k, hg1, rfl, hno, hk⟩ := hrel
    have G1 := Lib.hid hg1; have NO := Lib.hid hno; have KK := Lib.hid hk
    clear hg1 hno hk
    by_cases hki : k < i
    · have k0 : (k : Int) < (i : Int) := by omega
      have k1 : (0 : Int) ≤ (k : Int) := by omega
      have k2 : (k : Int) < (n : Int) := by omega
      have e1 : IntKind.i64.wrap ((k : Int) + 1) = ((k + 1 : Nat) : Int) := IntWalk.i64_in _ (by omega)
      have cs := KK.out.cell CS.out (fun f => f)
      obtain ⟨x, hx⟩ : ∃ x, nth L k = x := ⟨_, rfl⟩
      have gx := nth_get (l := L) (k := k) (by rw [HN.out]; omega)
      rw [hx] at gx
      have cl := KK.out.cell (ReadsS.at HC.out gx).2.1 (fun f => f)
      have HX := Lib.hid hx
      clear hx gx
      by_cases hid : x.id = y.id
      · have d1 : (x.id == y.id) = true := by simp [hid]
        have FF := Lib.hid (show cntB L i = false from by
          cases h : cntB L i with
          | false => rfl
          | true => exact absurd (by rw [HX.out, HY.out]; exact hid) (cntB_iff.1 h k hki))
        clear hid
        go_wp2
        refine wp_region_held_drew (S := (fun w' => w'.cell? ⟨g, o + k * 8 + 1, none⟩ = some (.int .i64 x.id) ∧ w'.cell? ⟨g, o + i * 8 + 1, none⟩ = some (.int .i64 y.id))) (by kernel_rfl) ?_ (fun hHeld => ?_)
        · exact ⟨cl, cs⟩
        refine wpAnyH_take (i := 0) (v := ?_) opAt0 (by kernel_rfl) (by kernel_rfl) (by kernel_rfl) (fun _ _ _ h => h) (Or.inl ⟨by rfl, ?_⟩) hHeld ?_
        case refine_2 => (intro w hSw; (try dsimp only at hSw); go_simp; all_goals (with_reducible rfl))
        (try simp only [Act.put]); (try simp only [List.setIfInBounds_toArray]); (try simp only [List.set_cons_succ]); (try simp only [List.set_cons_zero])
        refine wpAnyH_take (i := 1) (v := ?_) opAt1 (by kernel_rfl) (by kernel_rfl) (by kernel_rfl) (fun _ _ _ h => h) (Or.inl ⟨by rfl, ?_⟩) hHeld ?_
        case refine_2 => (intro w hSw; (try dsimp only at hSw); go_simp; all_goals (with_reducible rfl))
        (try simp only [Act.put]); (try simp only [List.setIfInBounds_toArray]); (try simp only [List.set_cons_succ]); (try simp only [List.set_cons_zero])
        refine wpAnyH_take (i := 2) (v := ?_) opAt2 (by kernel_rfl) (by kernel_rfl) (by kernel_rfl) (fun _ _ _ h => h) (Or.inl ⟨by rfl, ?_⟩) hHeld ?_
        case refine_2 => (intro w hSw; (try dsimp only at hSw); go_simp; all_goals (with_reducible rfl))
        (try simp only [Act.put]); (try simp only [List.setIfInBounds_toArray]); (try simp only [List.set_cons_succ]); (try simp only [List.set_cons_zero])
        refine wpAnyH_take (i := 3) (v := ?_) opAt3 (by kernel_rfl) (by kernel_rfl) (by kernel_rfl) (fun _ _ _ h => h) (Or.inl ⟨by rfl, ?_⟩) hHeld ?_
        case refine_2 => (intro w hSw; (try dsimp only at hSw); go_simp; all_goals (with_reducible rfl))
        (try simp only [Act.put]); (try simp only [List.setIfInBounds_toArray]); (try simp only [List.set_cons_succ]); (try simp only [List.set_cons_zero])
        refine wpAnyH_take (i := 4) (v := ?_) opAt4 (by kernel_rfl) (by kernel_rfl) (by kernel_rfl) (fun _ _ _ h => h) (Or.inl ⟨by rfl, ?_⟩) hHeld ?_
        case refine_2 => (intro w hSw; (try dsimp only at hSw); go_simp; all_goals (with_reducible rfl))
        (try simp only [Act.put]); (try simp only [List.setIfInBounds_toArray]); (try simp only [List.set_cons_succ]); (try simp only [List.set_cons_zero])
        refine wpAnyH_take (i := 5) (v := ?_) opAt5 (by kernel_rfl) (by kernel_rfl) (by kernel_rfl) (fun _ _ _ h => h) (Or.inl ⟨by rfl, ?_⟩) hHeld ?_
        case refine_2 => (intro w hSw; (try dsimp only at hSw); go_simp; all_goals (with_reducible rfl))
        (try simp only [Act.put]); (try simp only [List.setIfInBounds_toArray]); (try simp only [List.set_cons_succ]); (try simp only [List.set_cons_zero])
        refine wpAnyH_take (i := 6) (v := ?_) opAt6 (by kernel_rfl) (by kernel_rfl) (by kernel_rfl) (fun _ _ _ h => h) (Or.inl ⟨by rfl, ?_⟩) hHeld ?_
        case refine_2 => (intro w hSw; (try dsimp only at hSw); go_simp; all_goals (with_reducible rfl))
        (try simp only [Act.put]); (try simp only [List.setIfInBounds_toArray]); (try simp only [List.set_cons_succ]); (try simp only [List.set_cons_zero])
        refine wpAnyH_take (i := 7) (v := ?_) opAt7 (by kernel_rfl) (by kernel_rfl) (by kernel_rfl) (fun _ _ _ h => h) (Or.inl ⟨by rfl, ?_⟩) hHeld ?_
        case refine_2 => (intro w hSw; (try dsimp only at hSw); go_simp; all_goals (with_reducible rfl))
        (try simp only [Act.put]); (try simp only [List.setIfInBounds_toArray]); (try simp only [List.set_cons_succ]); (try simp only [List.set_cons_zero])
        refine wpAnyH_take (i := 8) (v := ?_) opAt8 (by kernel_rfl) (by kernel_rfl) (by kernel_rfl) (fun _ _ _ h => h) (Or.inl ⟨by rfl, ?_⟩) hHeld ?_
        case refine_2 => (intro w hSw; (try dsimp only at hSw); go_simp; all_goals (with_reducible rfl))
        (try simp only [Act.put]); (try simp only [List.setIfInBounds_toArray]); (try simp only [List.set_cons_succ]); (try simp only [List.set_cons_zero])
        refine wpAnyH_take (i := 9) (v := ?_) opAt9 (by kernel_rfl) (by kernel_rfl) (by kernel_rfl) (fun _ _ _ h => h) (Or.inl ⟨by rfl, ?_⟩) hHeld ?_
        case refine_2 => (intro w hSw; (try dsimp only at hSw); go_simp; all_goals (with_reducible rfl))
        (try simp only [Act.put]); (try simp only [List.setIfInBounds_toArray]); (try simp only [List.set_cons_succ]); (try simp only [List.set_cons_zero])
        refine wpAnyH_take (i := 10) (v := ?_) opAt10 (by kernel_rfl) (by kernel_rfl) (by kernel_rfl) (fun _ _ _ h => h) (Or.inl ⟨by rfl, ?_⟩) hHeld ?_
        case refine_2 => (intro w hSw; (try dsimp only at hSw); go_simp; all_goals (with_reducible rfl))
        (try simp only [Act.put]); (try simp only [List.setIfInBounds_toArray]); (try simp only [List.set_cons_succ]); (try simp only [List.set_cons_zero])
        refine wpAnyH_done (by kernel_rfl) ?_ _
        go_wp2
        go_ret
        exact ⟨by rw [FF.out]; rfl, KK.out.drew⟩
      · have d1 : (x.id == y.id) = false := by simp [hid]
        have HID := Lib.hid hid
        clear hid
        go_wp2
        refine wp_region_held_drew (S := (fun w' => w'.cell? ⟨g, o + k * 8 + 1, none⟩ = some (.int .i64 x.id) ∧ w'.cell? ⟨g, o + i * 8 + 1, none⟩ = some (.int .i64 y.id))) (by kernel_rfl) ?_ (fun hHeld => ?_)
        · exact ⟨cl, cs⟩
        refine wpAnyH_take (i := 0) (v := ?_) opAt0 (by kernel_rfl) (by kernel_rfl) (by kernel_rfl) (fun _ _ _ h => h) (Or.inl ⟨by rfl, ?_⟩) hHeld ?_
        case refine_2 => (intro w hSw; (try dsimp only at hSw); go_simp; all_goals (with_reducible rfl))
        (try simp only [Act.put]); (try simp only [List.setIfInBounds_toArray]); (try simp only [List.set_cons_succ]); (try simp only [List.set_cons_zero])
        refine wpAnyH_take (i := 1) (v := ?_) opAt1 (by kernel_rfl) (by kernel_rfl) (by kernel_rfl) (fun _ _ _ h => h) (Or.inl ⟨by rfl, ?_⟩) hHeld ?_
        case refine_2 => (intro w hSw; (try dsimp only at hSw); go_simp; all_goals (with_reducible rfl))
        (try simp only [Act.put]); (try simp only [List.setIfInBounds_toArray]); (try simp only [List.set_cons_succ]); (try simp only [List.set_cons_zero])
        refine wpAnyH_take (i := 2) (v := ?_) opAt2 (by kernel_rfl) (by kernel_rfl) (by kernel_rfl) (fun _ _ _ h => h) (Or.inl ⟨by rfl, ?_⟩) hHeld ?_
        case refine_2 => (intro w hSw; (try dsimp only at hSw); go_simp; all_goals (with_reducible rfl))
        (try simp only [Act.put]); (try simp only [List.setIfInBounds_toArray]); (try simp only [List.set_cons_succ]); (try simp only [List.set_cons_zero])
        refine wpAnyH_take (i := 3) (v := ?_) opAt3 (by kernel_rfl) (by kernel_rfl) (by kernel_rfl) (fun _ _ _ h => h) (Or.inl ⟨by rfl, ?_⟩) hHeld ?_
        case refine_2 => (intro w hSw; (try dsimp only at hSw); go_simp; all_goals (with_reducible rfl))
        (try simp only [Act.put]); (try simp only [List.setIfInBounds_toArray]); (try simp only [List.set_cons_succ]); (try simp only [List.set_cons_zero])
        refine wpAnyH_take (i := 4) (v := ?_) opAt4 (by kernel_rfl) (by kernel_rfl) (by kernel_rfl) (fun _ _ _ h => h) (Or.inl ⟨by rfl, ?_⟩) hHeld ?_
        case refine_2 => (intro w hSw; (try dsimp only at hSw); go_simp; all_goals (with_reducible rfl))
        (try simp only [Act.put]); (try simp only [List.setIfInBounds_toArray]); (try simp only [List.set_cons_succ]); (try simp only [List.set_cons_zero])
        refine wpAnyH_take (i := 5) (v := ?_) opAt5 (by kernel_rfl) (by kernel_rfl) (by kernel_rfl) (fun _ _ _ h => h) (Or.inl ⟨by rfl, ?_⟩) hHeld ?_
        case refine_2 => (intro w hSw; (try dsimp only at hSw); go_simp; all_goals (with_reducible rfl))
        (try simp only [Act.put]); (try simp only [List.setIfInBounds_toArray]); (try simp only [List.set_cons_succ]); (try simp only [List.set_cons_zero])
        refine wpAnyH_take (i := 6) (v := ?_) opAt6 (by kernel_rfl) (by kernel_rfl) (by kernel_rfl) (fun _ _ _ h => h) (Or.inl ⟨by rfl, ?_⟩) hHeld ?_
        case refine_2 => (intro w hSw; (try dsimp only at hSw); go_simp; all_goals (with_reducible rfl))
        (try simp only [Act.put]); (try simp only [List.setIfInBounds_toArray]); (try simp only [List.set_cons_succ]); (try simp only [List.set_cons_zero])
        refine wpAnyH_take (i := 7) (v := ?_) opAt7 (by kernel_rfl) (by kernel_rfl) (by kernel_rfl) (fun _ _ _ h => h) (Or.inl ⟨by rfl, ?_⟩) hHeld ?_
        case refine_2 => (intro w hSw; (try dsimp only at hSw); go_simp; all_goals (with_reducible rfl))
        (try simp only [Act.put]); (try simp only [List.setIfInBounds_toArray]); (try simp only [List.set_cons_succ]); (try simp only [List.set_cons_zero])
        refine wpAnyH_take (i := 8) (v := ?_) opAt8 (by kernel_rfl) (by kernel_rfl) (by kernel_rfl) (fun _ _ _ h => h) (Or.inl ⟨by rfl, ?_⟩) hHeld ?_
        case refine_2 => (intro w hSw; (try dsimp only at hSw); go_simp; all_goals (with_reducible rfl))
        (try simp only [Act.put]); (try simp only [List.setIfInBounds_toArray]); (try simp only [List.set_cons_succ]); (try simp only [List.set_cons_zero])
        refine wpAnyH_take (i := 9) (v := ?_) opAt9 (by kernel_rfl) (by kernel_rfl) (by kernel_rfl) (fun _ _ _ h => h) (Or.inl ⟨by rfl, ?_⟩) hHeld ?_
        case refine_2 => (intro w hSw; (try dsimp only at hSw); go_simp; all_goals (with_reducible rfl))
        (try simp only [Act.put]); (try simp only [List.setIfInBounds_toArray]); (try simp only [List.set_cons_succ]); (try simp only [List.set_cons_zero])
        refine wpAnyH_take (i := 10) (v := ?_) opAt10 (by kernel_rfl) (by kernel_rfl) (by kernel_rfl) (fun _ _ _ h => h) (Or.inl ⟨by rfl, ?_⟩) hHeld ?_
        case refine_2 => (intro w hSw; (try dsimp only at hSw); go_simp; all_goals (with_reducible rfl))
        (try simp only [Act.put]); (try simp only [List.setIfInBounds_toArray]); (try simp only [List.set_cons_succ]); (try simp only [List.set_cons_zero])
        refine wpAnyH_done (by kernel_rfl) ?_ _
        go_wp2
        go_roundg (i - (k + 1))
        case measure => have := G1.out; omega
        case rel => exact ⟨k + 1, by omega, by go_num, fun t ht => by
          by_cases c : t = k
          · subst c; rw [HX.out]; exact HID.out
          · exact NO.out t (by omega), KK.out.drew⟩
    · have k0 : ¬ (k : Int) < (i : Int) := by omega
      have TT := Lib.hid (show cntB L i = true from cntB_iff.2 (fun t ht => by rw [HY.out]; exact NO.out t (by have := G1.out; omega)))
      go_wp2
      go_ret
      exact ⟨by rw [TT.out]; rfl, KK.out⟩

set_option maxHeartbeats 8000000 in
set_option maxRecDepth 100000 in
theorem treesOnce_any (w : World) (v : Value) (L : List Spn) (h : ReadsS w v L) (hm : L.length ≤ maxLen) :
    Calls Try.prog 5 #[v] w fun e w' => e = .returned (.bool true) ∧ Kept (fun _ => False) w w' := by
  have HRr := Lib.hid h
  obtain ⟨ao, capL, rfl, rd⟩ := h
  obtain ⟨n, hn⟩ : ∃ n, L.length = n := ⟨_, rfl⟩
  have HN := Lib.hid hn; have RD := Lib.hid rd
  rw [hn] at hm HRr ⊢
  unfold maxLen at hm
  clear hn rd
  by_cases hbig : 100 < n
  · have h0 : (100 : Int) < (n : Int) := by omega
    go_enter Try.func5, Try.ntmps5
    go_wp2
    go_ret
    exact ⟨rfl, Kept.refl _ _⟩
  · have h0 : ¬ (100 : Int) < (n : Int) := by omega
    have hn100 : n ≤ 100 := by omega
    have HL := Lib.hid (show L.length ≤ 1000 from by rw [HN.out]; omega)
    clear hbig
    go_enter Try.func5, Try.ntmps5
    go_wp2_with fail
    refine (tof_any w _ L HRr.out HL.out).mono ?_
    rintro e w1 ⟨rv, ov, rfl, r1, o1, k1⟩
    obtain ⟨R, hR⟩ : ∃ R, cntF L = R := ⟨_, rfl⟩
    rw [hR] at r1 o1
    obtain ⟨ra, rc, er, _⟩ := id r1
    obtain ⟨oa, oc, eo, _⟩ := id o1
    obtain ⟨rn, hrn⟩ : ∃ x, (rootsF R).len = x := ⟨_, rfl⟩
    obtain ⟨on, hon⟩ : ∃ x, (orphF R).len = x := ⟨_, rfl⟩
    rw [hrn] at er
    rw [hon] at eo
    subst er eo
    obtain ⟨m, hmR⟩ : ∃ m, R.length = m := ⟨_, rfl⟩
    have HRR := Lib.hid hR; have MR := Lib.hid hmR
    have MN := Lib.hid (show m ≤ n from by rw [← hmR, ← hR, ← HN.out]; exact cntF_len L)
    have RISE := Lib.hid (show Rise R from by rw [← hR]; exact (cntF_cnt L).rise)
    have SZ := Lib.hid (show (rootsF R).size + (orphF R).size = m from by rw [← size_flat, ← size_flat, flat_size, hmR])
    have R1 := Lib.hid r1; have O1 := Lib.hid o1; have K1 := Lib.hid k1
    obtain ⟨tb, htb⟩ : ∃ b, w1.heap.size = b := ⟨_, rfl⟩
    obtain ⟨w2, hw2⟩ : ∃ W, w1.alloc (.cells #[.slice ra rn rc, .slice oa on oc] 28) = W := ⟨_, rfl⟩
    have KT := Lib.hid (show Kept (fun _ => False) w1 w2 from by rw [← hw2]; exact (Kept.refl _ w1).alloc _)
    have c0 : w2.cell? ⟨tb, 0, none⟩ = some (.slice ra rn rc) := by rw [← hw2, ← htb]; simp
    have c1 : w2.cell? ⟨tb, 1, none⟩ = some (.slice oa on oc) := by rw [← hw2, ← htb]; simp
    have C0 := Lib.hid c0; have C1 := Lib.hid c1
    clear r1 o1 k1 hrn hon hR hmR
    go_wp2_with fail
    clear hw2 htb c0 c1
    have hms : (rootsF R).size + (orphF R).size ≤ 1000 := by rw [SZ.out]; have := MN.out; omega
    refine (flat_any _ w2 _ _ _ _ (R1.out.kept KT.out) (O1.out.kept KT.out) hms).mono ?_
    rintro e w3 ⟨fv, rfl, own3, k3⟩
    rw [SZ.out] at own3
    obtain ⟨fa, fc, ef⟩ : ∃ a c, fv = .slice a m c := by
      rcases row_form own3 with ⟨q1, q2⟩ | ⟨g', c', q1, _⟩
      · exact ⟨none, 0, by rw [q1, q2]⟩
      · exact ⟨_, _, q1⟩
    subst ef
    obtain ⟨F, hF⟩ : ∃ F, (rootsF R).flat ++ (orphF R).flat = F := ⟨_, rfl⟩
    have PERM := Lib.hid (show F.Perm R from by rw [← hF]; exact flat_perm R)
    have FLEN := Lib.hid (show F.length = m from by rw [PERM.out.length_eq]; exact MR.out)
    rw [hF] at own3
    have OWN3 := Lib.hid own3; have K3 := Lib.hid k3
    have KW := Lib.hid (keptFF (keptFF K1.out KT.out) k3)
    clear own3 k3 hF hms
    go_wp2
    go_loopg [5, 6] n (fun ghv s5 s6 wr => ∃ (i mm : Nat), i + ghv = n ∧ s6 = .int .i64 i ∧ s5 = .int .i64 mm ∧ (cntN L i).length = mm ∧ Kept (fun _ => False) w3 wr)
    case atStart => exact ⟨0, 0, by omega, by go_num, by go_num, rfl, Kept.refl _ _⟩
    case round =>
      obtain ⟨i, mm, hg1, rfl, rfl, hmm, hk⟩ := hrel
      have G1 := Lib.hid hg1; have MM := Lib.hid hmm; have KK := Lib.hid hk
      clear hg1 hmm hk
      have KWR := Lib.hid (keptFF KW.out KK.out)
      by_cases hin : i < n
      · have i0 : (i : Int) < (n : Int) := by omega
        have i1 : (0 : Int) ≤ (i : Int) := by omega
        have e1 : IntKind.i64.wrap ((i : Int) + 1) = ((i + 1 : Nat) : Int) := IntWalk.i64_in _ (by omega)
        have hmi : mm ≤ 100 := by rw [← MM.out]; have := cntN_len L i; omega
        have e2 : IntKind.i64.wrap ((mm : Int) + 1) = ((mm + 1 : Nat) : Int) := IntWalk.i64_in _ (by omega)
        have STEP := Lib.hid (cntN_step (L := L) (i := i))
        go_wp2_with fail
        refine (counts_any wr _ L i (HRr.out.keptF KWR.out) HL.out (by rw [HN.out]; exact hin)).mono ?_
        rintro e w4 ⟨rfl, k4⟩
        have K4 := Lib.hid (keptFF KK.out k4)
        clear k4
        cases hcb : cntB L i with
        | false =>
          have CB := Lib.hid hcb
          clear hcb
          go_wp2
          go_roundg (n - (i + 1))
          case measure => have := G1.out; omega
          case rel => exact ⟨i + 1, mm, by omega, by go_num, rfl, by rw [STEP.out.1, CB.out, MM.out]; simp, K4.out⟩
        | true =>
          have CB := Lib.hid hcb
          clear hcb
          obtain ⟨g, o, rfl, hc⟩ : ∃ g o, ao = some ⟨g, o, none⟩ ∧ ∀ j u, (cellsS L)[j]? = some u → w.cell? ⟨g, o + j, none⟩ = some u := by
            rcases RD.out with h | h
            · have := HN.out; subst h; simp at this; omega
            · exact h
          obtain ⟨y, hy⟩ : ∃ y, nth L i = y := ⟨_, rfl⟩
          have gy := nth_get (l := L) (k := i) (by rw [HN.out]; exact hin)
          rw [hy] at gy
          have RYW := Lib.hid (ReadsS.range hc gy)
          have HY := Lib.hid hy
          have YR := Lib.hid (show y ∈ R from by
            rw [← HRR.out, ← hy, cntF, HN.out]; exact cntN_sub (STEP.out.2 CB.out) n (by omega))
          have ONE := Lib.hid (show F.countP (fun x => eqS x y) = 1 from by rw [PERM.out.countP_eq]; exact rise_one R y RISE.out YR.out)
          clear hy gy hc
          have q0 := s24c
          have q1 := g24c
          have q2 := eql24
          go_wp2
          go_loopg [7, 8] m (fun ghv2 s7 s8 wr2 => ∃ (k c : Nat), k + ghv2 = m ∧ s8 = .int .i64 k ∧ s7 = .int .i64 c ∧ (F.take k).countP (fun x => eqS x y) = c ∧ Kept (fun _ => False) w3 wr2)
          case atStart => exact ⟨0, 0, by omega, by go_num, by go_num, by simp, K4.out⟩
          case round =>
            obtain ⟨k, c, hg2, rfl, rfl, hcc, hk2⟩ := hrel
            have G2 := Lib.hid hg2; have CC := Lib.hid hcc; have KK2 := Lib.hid hk2
            clear hg2 hcc hk2
            by_cases hkm : k < m
            · have k0 : (k : Int) < (m : Int) := by omega
              have k1 : (0 : Int) ≤ (k : Int) := by omega
              have hk100 : k ≤ 100 := by have := MN.out; omega
              have e3 : IntKind.i64.wrap ((k : Int) + 1) = ((k + 1 : Nat) : Int) := IntWalk.i64_in _ (by omega)
              have hc100 : c ≤ 100 := by
                have h1 := CC.out
                have h2 := List.countP_le_length (p := fun x => eqS x y) (l := F.take k)
                rw [List.length_take] at h2
                omega
              have e4 : IntKind.i64.wrap ((c : Int) + 1) = ((c + 1 : Nat) : Int) := IntWalk.i64_in _ (by omega)
              obtain ⟨gf, rfl, hcf⟩ : ∃ g, fa = some ⟨g, 0, none⟩ ∧ ∀ j u, (cellsS F)[j]? = some u → w3.cell? ⟨g, 0 + j, none⟩ = some u := by
                rcases row_form OWN3.out with ⟨_, q⟩ | ⟨g', c', q1, _, _, _, hc⟩
                · omega
                · cases q1; exact ⟨g', rfl, fun j u hu => by rw [Nat.zero_add]; exact hc j u hu⟩
              obtain ⟨x, hx⟩ : ∃ x, nth F k = x := ⟨_, rfl⟩
              have gx := nth_get (l := F) (k := k) (by rw [FLEN.out]; exact hkm)
              rw [hx] at gx
              have GX := Lib.hid gx
              have rx := ReadsS.range (fun j u hu => KK2.out.cell (hcf j u hu) (fun f => f)) gx
              rw [Nat.zero_add] at rx
              have ry : wr.rangeAt g (o + i * 8) y.cells := fun j u hu => (keptFF KW.out KK2.out).cell (RYW.out j u hu) (fun f => f)
              have TK := Lib.hid (show (F.take (k + 1)).countP (fun x => eqS x y) = c + (if eqS x y then 1 else 0) from by
                rw [List.take_add_one, GX.out, Option.toList_some, List.countP_append, CC.out]; simp [List.countP_cons])
              clear hx gx hcf
              cases hxy : eqS x y with
              | true =>
                go_wp2
                refine wp_region_held_drew (S := (fun w' => w'.rangeAt gf (k * 8) x.cells ∧ w'.rangeAt g (o + i * 8) y.cells)) (by kernel_rfl) ?_ (fun hHeld => ?_)
                · exact ⟨rx, ry⟩
                refine wpAnyH_take (i := 0) (v := ?_) opAt0 (by kernel_rfl) (by kernel_rfl) (by kernel_rfl) (fun _ _ _ h => h) (Or.inl ⟨by rfl, ?_⟩) hHeld ?_
                case refine_2 => (intro w hSw; (try dsimp only at hSw); go_simp; all_goals (with_reducible rfl))
                (try simp only [Act.put]); (try simp only [List.setIfInBounds_toArray]); (try simp only [List.set_cons_succ]); (try simp only [List.set_cons_zero])
                refine wpAnyH_take (i := 1) (v := ?_) opAt1 (by kernel_rfl) (by kernel_rfl) (by kernel_rfl) (fun _ _ _ h => h) (Or.inl ⟨by rfl, ?_⟩) hHeld ?_
                case refine_2 => (intro w hSw; (try dsimp only at hSw); go_simp; all_goals (with_reducible rfl))
                (try simp only [Act.put]); (try simp only [List.setIfInBounds_toArray]); (try simp only [List.set_cons_succ]); (try simp only [List.set_cons_zero])
                refine wpAnyH_take (i := 2) (v := ?_) opAt2 (by kernel_rfl) (by kernel_rfl) (by kernel_rfl) (fun _ _ _ h => h) (Or.inl ⟨by rfl, ?_⟩) hHeld ?_
                case refine_2 => (intro w hSw; (try dsimp only at hSw); go_simp; all_goals (with_reducible rfl))
                (try simp only [Act.put]); (try simp only [List.setIfInBounds_toArray]); (try simp only [List.set_cons_succ]); (try simp only [List.set_cons_zero])
                refine wpAnyH_take (i := 3) (v := aggS x) opAt3 (by kernel_rfl) (by kernel_rfl) (by kernel_rfl) (fun _ _ _ h => h) (yieldsIf_load_mid (by rfl) 24 _ (by rfl) gf (k * 8) (by rfl) x.cells _ (fun w hS => hS.1) Try.underlying24 rfl info24) hHeld ?_
                (try simp only [Act.put]); (try simp only [List.setIfInBounds_toArray]); (try simp only [List.set_cons_succ]); (try simp only [List.set_cons_zero])
                refine wpAnyH_take (i := 4) (v := ?_) opAt4 (by kernel_rfl) (by kernel_rfl) (by kernel_rfl) (fun _ _ _ h => h) (Or.inl ⟨by rfl, ?_⟩) hHeld ?_
                case refine_2 => (intro w hSw; (try dsimp only at hSw); go_simp; all_goals (with_reducible rfl))
                (try simp only [Act.put]); (try simp only [List.setIfInBounds_toArray]); (try simp only [List.set_cons_succ]); (try simp only [List.set_cons_zero])
                refine wpAnyH_take (i := 5) (v := ?_) opAt5 (by kernel_rfl) (by kernel_rfl) (by kernel_rfl) (fun _ _ _ h => h) (Or.inl ⟨by rfl, ?_⟩) hHeld ?_
                case refine_2 => (intro w hSw; (try dsimp only at hSw); go_simp; all_goals (with_reducible rfl))
                (try simp only [Act.put]); (try simp only [List.setIfInBounds_toArray]); (try simp only [List.set_cons_succ]); (try simp only [List.set_cons_zero])
                refine wpAnyH_take (i := 6) (v := ?_) opAt6 (by kernel_rfl) (by kernel_rfl) (by kernel_rfl) (fun _ _ _ h => h) (Or.inl ⟨by rfl, ?_⟩) hHeld ?_
                case refine_2 => (intro w hSw; (try dsimp only at hSw); go_simp; all_goals (with_reducible rfl))
                (try simp only [Act.put]); (try simp only [List.setIfInBounds_toArray]); (try simp only [List.set_cons_succ]); (try simp only [List.set_cons_zero])
                refine wpAnyH_take (i := 7) (v := aggS y) opAt7 (by kernel_rfl) (by kernel_rfl) (by kernel_rfl) (fun _ _ _ h => h) (yieldsIf_load_mid (by rfl) 24 _ (by rfl) g (o + i * 8) (by rfl) y.cells _ (fun w hS => hS.2) Try.underlying24 rfl info24) hHeld ?_
                (try simp only [Act.put]); (try simp only [List.setIfInBounds_toArray]); (try simp only [List.set_cons_succ]); (try simp only [List.set_cons_zero])
                refine wpAnyH_take (i := 8) (v := ?_) opAt8 (by kernel_rfl) (by kernel_rfl) (by kernel_rfl) (fun _ _ _ h => h) (Or.inl ⟨by rfl, ?_⟩) hHeld ?_
                case refine_2 => (intro w hSw; (try dsimp only at hSw); go_simp; all_goals (with_reducible rfl))
                (try simp only [Act.put]); (try simp only [List.setIfInBounds_toArray]); (try simp only [List.set_cons_succ]); (try simp only [List.set_cons_zero])
                refine wpAnyH_done (by kernel_rfl) ?_ _
                go_wp2
                go_roundg (m - (k + 1))
                case measure => have := G2.out; omega
                case rel => exact ⟨k + 1, c + 1, by omega, by go_num, by go_num, by rw [TK.out, hxy]; simp, KK2.out.drew⟩
              | false =>
                go_wp2
                refine wp_region_held_drew (S := (fun w' => w'.rangeAt gf (k * 8) x.cells ∧ w'.rangeAt g (o + i * 8) y.cells)) (by kernel_rfl) ?_ (fun hHeld => ?_)
                · exact ⟨rx, ry⟩
                refine wpAnyH_take (i := 0) (v := ?_) opAt0 (by kernel_rfl) (by kernel_rfl) (by kernel_rfl) (fun _ _ _ h => h) (Or.inl ⟨by rfl, ?_⟩) hHeld ?_
                case refine_2 => (intro w hSw; (try dsimp only at hSw); go_simp; all_goals (with_reducible rfl))
                (try simp only [Act.put]); (try simp only [List.setIfInBounds_toArray]); (try simp only [List.set_cons_succ]); (try simp only [List.set_cons_zero])
                refine wpAnyH_take (i := 1) (v := ?_) opAt1 (by kernel_rfl) (by kernel_rfl) (by kernel_rfl) (fun _ _ _ h => h) (Or.inl ⟨by rfl, ?_⟩) hHeld ?_
                case refine_2 => (intro w hSw; (try dsimp only at hSw); go_simp; all_goals (with_reducible rfl))
                (try simp only [Act.put]); (try simp only [List.setIfInBounds_toArray]); (try simp only [List.set_cons_succ]); (try simp only [List.set_cons_zero])
                refine wpAnyH_take (i := 2) (v := ?_) opAt2 (by kernel_rfl) (by kernel_rfl) (by kernel_rfl) (fun _ _ _ h => h) (Or.inl ⟨by rfl, ?_⟩) hHeld ?_
                case refine_2 => (intro w hSw; (try dsimp only at hSw); go_simp; all_goals (with_reducible rfl))
                (try simp only [Act.put]); (try simp only [List.setIfInBounds_toArray]); (try simp only [List.set_cons_succ]); (try simp only [List.set_cons_zero])
                refine wpAnyH_take (i := 3) (v := aggS x) opAt3 (by kernel_rfl) (by kernel_rfl) (by kernel_rfl) (fun _ _ _ h => h) (yieldsIf_load_mid (by rfl) 24 _ (by rfl) gf (k * 8) (by rfl) x.cells _ (fun w hS => hS.1) Try.underlying24 rfl info24) hHeld ?_
                (try simp only [Act.put]); (try simp only [List.setIfInBounds_toArray]); (try simp only [List.set_cons_succ]); (try simp only [List.set_cons_zero])
                refine wpAnyH_take (i := 4) (v := ?_) opAt4 (by kernel_rfl) (by kernel_rfl) (by kernel_rfl) (fun _ _ _ h => h) (Or.inl ⟨by rfl, ?_⟩) hHeld ?_
                case refine_2 => (intro w hSw; (try dsimp only at hSw); go_simp; all_goals (with_reducible rfl))
                (try simp only [Act.put]); (try simp only [List.setIfInBounds_toArray]); (try simp only [List.set_cons_succ]); (try simp only [List.set_cons_zero])
                refine wpAnyH_take (i := 5) (v := ?_) opAt5 (by kernel_rfl) (by kernel_rfl) (by kernel_rfl) (fun _ _ _ h => h) (Or.inl ⟨by rfl, ?_⟩) hHeld ?_
                case refine_2 => (intro w hSw; (try dsimp only at hSw); go_simp; all_goals (with_reducible rfl))
                (try simp only [Act.put]); (try simp only [List.setIfInBounds_toArray]); (try simp only [List.set_cons_succ]); (try simp only [List.set_cons_zero])
                refine wpAnyH_take (i := 6) (v := ?_) opAt6 (by kernel_rfl) (by kernel_rfl) (by kernel_rfl) (fun _ _ _ h => h) (Or.inl ⟨by rfl, ?_⟩) hHeld ?_
                case refine_2 => (intro w hSw; (try dsimp only at hSw); go_simp; all_goals (with_reducible rfl))
                (try simp only [Act.put]); (try simp only [List.setIfInBounds_toArray]); (try simp only [List.set_cons_succ]); (try simp only [List.set_cons_zero])
                refine wpAnyH_take (i := 7) (v := aggS y) opAt7 (by kernel_rfl) (by kernel_rfl) (by kernel_rfl) (fun _ _ _ h => h) (yieldsIf_load_mid (by rfl) 24 _ (by rfl) g (o + i * 8) (by rfl) y.cells _ (fun w hS => hS.2) Try.underlying24 rfl info24) hHeld ?_
                (try simp only [Act.put]); (try simp only [List.setIfInBounds_toArray]); (try simp only [List.set_cons_succ]); (try simp only [List.set_cons_zero])
                refine wpAnyH_take (i := 8) (v := ?_) opAt8 (by kernel_rfl) (by kernel_rfl) (by kernel_rfl) (fun _ _ _ h => h) (Or.inl ⟨by rfl, ?_⟩) hHeld ?_
                case refine_2 => (intro w hSw; (try dsimp only at hSw); go_simp; all_goals (with_reducible rfl))
                (try simp only [Act.put]); (try simp only [List.setIfInBounds_toArray]); (try simp only [List.set_cons_succ]); (try simp only [List.set_cons_zero])
                refine wpAnyH_done (by kernel_rfl) ?_ _
                go_wp2
                go_roundg (m - (k + 1))
                case measure => have := G2.out; omega
                case rel => exact ⟨k + 1, c, by omega, by go_num, rfl, by rw [TK.out, hxy]; simp, KK2.out.drew⟩
            · have k0 : ¬ (k : Int) < (m : Int) := by omega
              have C1' := Lib.hid (show c = 1 from by rw [← CC.out, List.take_of_length_le (by rw [FLEN.out]; have := G2.out; omega)]; exact ONE.out)
              obtain rfl := C1'.out
              have d1 : (((1 : Nat) : Int) != 1) = false := by simp
              go_wp2
              go_roundg (n - (i + 1))
              case measure => have := G1.out; omega
              case rel => exact ⟨i + 1, mm + 1, by omega, by go_num, by go_num, by rw [STEP.out.1, CB.out, MM.out]; simp, KK2.out⟩
      · have i0 : ¬ (i : Int) < (n : Int) := by omega
        obtain rfl : mm = m := by rw [← MM.out, ← MR.out, ← HRR.out, cntF, HN.out, show i = n by have := G1.out; omega]
        have d0 : ((mm : Int) == (mm : Int)) = true := by simp
        have c0 := KK.out.cell ((KW.out : Kept (fun _ => False) w w3) |> fun _ => K3.out.cell C0.out (fun f => f)) (fun f => f)
        have c1 := KK.out.cell (K3.out.cell C1.out (fun f => f)) (fun f => f)
        go_wp2_with fail
        refine (count_any _ wr _ _ _ _ ((R1.out.kept KT.out).kept (keptFF K3.out KK.out)) ((O1.out.kept KT.out).kept (keptFF K3.out KK.out)) (by rw [SZ.out]; have := MN.out; omega)).mono ?_
        rintro e w5 ⟨rfl, k5⟩
        rw [SZ.out]
        have K5 := Lib.hid (keptFF KWR.out k5)
        clear k5 c0 c1
        go_wp2_with fail
        refine (does_any w5).mono ?_
        rintro e w6 ⟨rfl, k6⟩
        have K6 := Lib.hid (keptFF K5.out k6)
        clear k6
        go_wp2
        go_ret
        exact ⟨rfl, K6.out⟩
end Go.Proofs.Ytjidldbolbjdpaa
