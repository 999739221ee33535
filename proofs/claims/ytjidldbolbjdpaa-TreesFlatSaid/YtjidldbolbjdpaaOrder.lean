/- spoorlaw14.TreesOrder. -/
import Derived.Test.YtjidldbolbjdpaaOrderP
import Derived.Test.YtjidldbolbjdpaaOnce
namespace Go.Proofs.Ytjidldbolbjdpaa
open Go.RowKit

theorem own_readsS {w : World} {base g n cap : Nat} {R : List Spn} (h : w.ownsRow base 24 8 (.slice (some ⟨g, 0, none⟩) n cap) n (cellsS R)) (hl : R.length = n) : ReadsS w (.slice (some ⟨g, 0, none⟩) n cap) R := by
  have := own_reads h (R := R) (fun j _ => rfl) cap
  rwa [hl] at this
set_option maxHeartbeats 8000000 in
set_option maxRecDepth 100000 in
theorem treesOrder_any (w : World) (v : Value) (L : List Spn) (c : Int) (back : Bool) (h : ReadsS w v L) (hm : L.length ≤ maxLen) (hsh : ∀ a n cap, v = .slice a n cap → n ≤ cap) (c0 : 0 ≤ c) (c1 : c < 256) :
    Calls Try.prog 7 #[v, .int .u8 c, .bool back] w fun e w' => e = .returned (.bool true) ∧ Kept (fun _ => False) w w' := by
  have HRr := Lib.hid h
  obtain ⟨ao, capL, rfl, rd⟩ := h
  have hcap := hsh _ _ _ rfl
  obtain ⟨n, hn⟩ : ∃ n, L.length = n := ⟨_, rfl⟩
  have HN := Lib.hid hn; have RD := Lib.hid rd
  rw [hn] at hm HRr hcap ⊢
  unfold maxLen at hm
  clear hn rd hsh
  by_cases hbig : 60 < n
  · have h0 : (60 : Int) < (n : Int) := by omega
    go_enter Try.func7, Try.ntmps7
    go_wp2_with fail
    refine (does_any w).mono ?_
    rintro e w2 ⟨rfl, k2⟩
    have K2 := Lib.hid k2
    clear k2
    go_wp2
    go_ret
    exact ⟨rfl, K2.out⟩
  by_cases hz : n = 0
  · have h0 : ¬ (60 : Int) < (n : Int) := by omega
    have h1 : ((n : Int) == 0) = true := by simp [hz]
    go_enter Try.func7, Try.ntmps7
    go_wp2_with fail
    refine (does_any w).mono ?_
    rintro e w2 ⟨rfl, k2⟩
    have K2 := Lib.hid k2
    clear k2
    go_wp2
    go_ret
    exact ⟨rfl, K2.out⟩
  have h0 : ¬ (60 : Int) < (n : Int) := by omega
  have hz1 : ((n : Int) == 0) = false := by simp [hz]
  have hz2 : ¬ (n : Int) = 0 := by omega
  have hn60 : n ≤ 60 := by omega
  have HL := Lib.hid (show L.length ≤ 1000 from by rw [HN.out]; omega)
  have RC := Lib.hid (show (cntF L).length ≤ 1000 from Nat.le_trans (cntF_len L) HL.out)
  obtain ⟨i24, hi24, z24, s24, b24⟩ := info_parts inf24
  obtain ⟨b0, hb0⟩ : ∃ b, w.heap.size = b := ⟨_, rfl⟩
  have HB0 := Lib.hid hb0
  obtain ⟨k, hk⟩ : ∃ k, c.toNat % n = k := ⟨_, rfl⟩
  have hkl : k < n := by have := Nat.mod_lt c.toNat (show 0 < n by omega); omega
  have ek : c.tmod (n : Int) = (k : Int) := by
    rw [Int.tmod_eq_emod_of_nonneg c0, ← hk]
    have : c = ((c.toNat : Nat) : Int) := by omega
    rw [this]; simp
  obtain ⟨gl, ol, rfl, hc⟩ : ∃ g o, ao = some ⟨g, o, none⟩ ∧ ∀ j u, (cellsS L)[j]? = some u → w.cell? ⟨g, o + j, none⟩ = some u := by
    rcases RD.out with h | h
    · have := HN.out; subst h; simp at this; omega
    · exact h
  obtain ⟨X1, X2, rs1, rs2, sr1, sr2⟩ := slices_arg hc HN.out hcap k (by omega)
  have SRC1 := Lib.hid sr1; have SRC2 := Lib.hid sr2
  have MLEN := Lib.hid (show (L.drop k ++ L.take k).length = n from by rw [List.length_append, List.length_drop, List.length_take, HN.out, Nat.min_eq_left (by omega)]; omega)
  clear hbig hz hb0 hk hc sr1 sr2
  go_enter Try.func7, Try.ntmps7
  go_wp2
  go_loopg [7] n (fun ghv s wr => ∃ (i : Nat), i + ghv = n ∧ s = .int .i64 i ∧ (∀ t, t < i → cntB L t = true) ∧ Kept (fun _ => False) w wr)
  case atStart => exact ⟨0, by omega, by go_num, fun t h => by omega, Kept.refl _ _⟩
  case round =>
    obtain ⟨i, hg1, rfl, hall, hkk⟩ := hrel
    have G1 := Lib.hid hg1; have ALL := Lib.hid hall; have KK := Lib.hid hkk
    clear hg1 hall hkk
    by_cases hin : i < n
    · have i0 : (i : Int) < (n : Int) := by omega
      have i1 : (0 : Int) ≤ (i : Int) := by omega
      have e1 : IntKind.i64.wrap ((i : Int) + 1) = ((i + 1 : Nat) : Int) := IntWalk.i64_in _ (by omega)
      go_wp2_with fail
      refine (counts_any wr _ L i (HRr.out.keptF KK.out) HL.out (by rw [HN.out]; exact hin)).mono ?_
      rintro e w4 ⟨rfl, k4⟩
      have K4 := Lib.hid (keptFF KK.out k4)
      clear k4
      cases hcb : cntB L i with
      | false =>
        clear hcb
        go_wp2_with fail
        refine (does_any w4).mono ?_
        rintro e w5 ⟨rfl, k5⟩
        have K5 := Lib.hid (keptFF K4.out k5)
        clear k5
        go_wp2
        go_ret
        exact ⟨rfl, K5.out⟩
      | true =>
        have CB := Lib.hid hcb
        clear hcb
        go_wp2
        go_roundg (n - (i + 1))
        case measure => have := G1.out; omega
        case rel => exact ⟨i + 1, by omega, by go_num, fun t ht => by
          by_cases c : t = i
          · subst c; exact CB.out
          · exact ALL.out t (by omega), K4.out⟩
    · have i0 : ¬ (i : Int) < (n : Int) := by omega
      have DIST := Lib.hid (show Dist L from dist_of (fun t ht => ALL.out t (by have := G1.out; rw [HN.out] at ht; omega)))
      go_wp2
      refine wp_region_held_drew (S := (fun _ => True)) (by kernel_rfl) ?_ (fun hHeld => ?_)
      · trivial
      refine wpAnyH_take (i := 1) (v := ?_) opAt1 (by kernel_rfl) (by kernel_rfl) (by kernel_rfl) (fun _ _ _ h => h) (Or.inl ⟨by rfl, ?_⟩) hHeld ?_
      case refine_2 => (intro w hSw; (try dsimp only at hSw); go_simp; all_goals (with_reducible rfl))
      (try simp only [Act.put]); (try simp only [List.setIfInBounds_toArray]); (try simp only [List.set_cons_succ]); (try simp only [List.set_cons_zero])
      refine wpAnyH_take (i := 2) (v := ?_) opAt2 (by kernel_rfl) (by kernel_rfl) (by kernel_rfl) (fun _ _ _ h => h) (Or.inl ⟨by rfl, ?_⟩) hHeld ?_
      case refine_2 => (intro w hSw; (try dsimp only at hSw); go_simp; all_goals (with_reducible rfl))
      (try simp only [Act.put]); (try simp only [List.setIfInBounds_toArray]); (try simp only [List.set_cons_succ]); (try simp only [List.set_cons_zero])
      refine wpAnyH_take (i := 3) (v := ?_) opAt3 (by kernel_rfl) (by kernel_rfl) (by kernel_rfl) (fun _ _ _ h => h) (Or.inl ⟨by rfl, ?_⟩) hHeld ?_
      case refine_2 => (intro w hSw; (try dsimp only at hSw); go_simp; all_goals (with_reducible rfl))
      (try simp only [Act.put]); (try simp only [List.setIfInBounds_toArray]); (try simp only [List.set_cons_succ]); (try simp only [List.set_cons_zero])
      refine wpAnyH_take (i := 5) (v := ?_) opAt5 (by kernel_rfl) (by kernel_rfl) (by kernel_rfl) (fun _ _ _ h => h) (Or.inl ⟨by rfl, ?_⟩) hHeld ?_
      case refine_2 => (intro w hSw; (try dsimp only at hSw); go_simp; all_goals (with_reducible rfl))
      (try simp only [Act.put]); (try simp only [List.setIfInBounds_toArray]); (try simp only [List.set_cons_succ]); (try simp only [List.set_cons_zero])
      refine wpAnyH_take (i := 6) (v := ?_) opAt6 (by kernel_rfl) (by kernel_rfl) (by kernel_rfl) (fun _ _ _ h => h) (Or.inl ⟨by rfl, ?_⟩) hHeld ?_
      case refine_2 => (intro w hSw; (try dsimp only at hSw); go_simp; all_goals (with_reducible rfl))
      (try simp only [Act.put]); (try simp only [List.setIfInBounds_toArray]); (try simp only [List.set_cons_succ]); (try simp only [List.set_cons_zero])
      refine wpAnyH_take (i := 7) (v := ?_) opAt7 (by kernel_rfl) (by kernel_rfl) (by kernel_rfl) (fun _ _ _ h => h) (Or.inl ⟨by rfl, ?_⟩) hHeld ?_
      case refine_2 => (intro w hSw; (try dsimp only at hSw); go_simp; all_goals (with_reducible rfl))
      (try simp only [Act.put]); (try simp only [List.setIfInBounds_toArray]); (try simp only [List.set_cons_succ]); (try simp only [List.set_cons_zero])
      refine wpAnyH_gen (fun V => Kept (fun _ => False) w V) KK.out.drew ?_
      intro V0 k0'
      have K0 := Lib.hid k0'
      clear k0'
      refine wpAnyH_ready (rs := [0]) (by kernel_rfl) (by simp) ?_
      refine AllReadyH.cons opAt0 (fun K hK => ?_) AllReadyH.nil
      go_simp
      have ho := World.ownsRow_made V0 #[] 0 (show b0 ≤ V0.heap.size from by have h1 := K0.out.size; have h2 := HB0.out; omega) (by unfold maxLen; omega) (by rfl) (e := 24) (size := 8) (base := b0)
      have hk := (Kept.refl (fun _ => False) V0).alloc (.cells #[] 24)
      have ge := K0.out.size
      generalize hV : V0.alloc (.cells #[] 24) = V1 at ho hk ⊢
      generalize he : V0.heap.size = e0 at ho ge ⊢
      have E := Lib.hid ho
      have EG := Lib.hid ge
      have K1 := Lib.hid (keptFF K0.out hk)
      clear ho hk ge hV he
      refine hK.out _ _ ?_ (fun hHeld => ?_)
      · trivial
      clear hK K
      (try simp only [Act.put]); (try simp only [List.setIfInBounds_toArray]); (try simp only [List.set_cons_succ]); (try simp only [List.set_cons_zero])
      refine wpAnyH_ready (rs := [4]) (by kernel_rfl) (by simp) ?_
      refine AllReadyH.cons opAt4 (fun K hK => ?_) AllReadyH.nil
      refine step_appG (by rfl) _ _ 22 (by rfl) b0 24 i24 _ 8 88 Try.underlying22 hi24 z24 s24 b24 (by rfl) (by decide) _ 0 [] (by rfl) E.out (n - k) (cellsS (L.drop k)) X2 (by rfl) (SRC2.out.kept K1.out) (by rw [cellsS_length, List.length_drop, HN.out]) (cellsS_one _) (by unfold maxLen; omega) (by omega) (by have h1 := K1.out.size; have h2 := HB0.out; omega) ?_
      intro ao1 cap1 V2 hown hk hat
      rw [Nat.zero_add, List.nil_append] at hown
      rw [Nat.zero_add] at hat ⊢
      have A1 := Lib.hid hown
      have A1G := Lib.hid (show ∀ q, (Value.slice ao1 (n - k) cap1).ownBlock = some q → w.heap.size ≤ q from fun q hq => hat.elim (fun h => by rw [h] at hq; cases hq; exact EG.out) (fun h => by rw [h] at hq; cases hq; exact K1.out.size))
      have K2 := Lib.hid (K1.out.trans hk (fun _ _ f => f) (fun q h1 h2 => by cases h2; have h3 := EG.out; have h4 : e0 < w.heap.size := h1; omega) : Kept (fun _ => False) w V2)
      clear hown hk hat
      refine hK.out _ _ ?_ (fun hHeld => ?_)
      · trivial
      clear hK K
      (try simp only [Act.put]); (try simp only [List.setIfInBounds_toArray]); (try simp only [List.set_cons_succ]); (try simp only [List.set_cons_zero])
      refine wpAnyH_ready (rs := [8]) (by kernel_rfl) (by simp) ?_
      refine AllReadyH.cons opAt8 (fun K hK => ?_) AllReadyH.nil
      refine step_appG (by rfl) _ _ 22 (by rfl) b0 24 i24 _ 8 88 Try.underlying22 hi24 z24 s24 b24 (by rfl) (by decide) _ (n - k) _ (by rfl) A1.out k (cellsS (L.take k)) X1 (by rfl) (SRC1.out.kept K2.out) (by rw [cellsS_length, List.length_take, Nat.min_eq_left (by rw [HN.out]; omega)]) (cellsS_one _) (by unfold maxLen; omega) (by omega) (by have h1 := K2.out.size; have h2 := HB0.out; omega) ?_
      intro ao2 cap2 V3 hown hk hat
      rw [show n - k + k = n by omega, ← cellsS_append] at hown
      rw [show n - k + k = n by omega]
      obtain ⟨g, hao, hcp, hge⟩ := row_some2 hown (by omega)
      subst hao
      have A2 := Lib.hid hown
      have K3 := Lib.hid (K2.out.trans hk (fun _ _ f => f) (fun q h1 h2 => by have h3 := A1G.out q h2; omega) : Kept (fun _ => False) w V3)
      have GE := Lib.hid (show w.heap.size ≤ g from by rw [HB0.out]; exact hge)
      clear hown hk hat hge hcp
      refine hK.out _ _ ?_ (fun hHeld => ?_)
      · trivial
      clear hK K
      (try simp only [Act.put]); (try simp only [List.setIfInBounds_toArray]); (try simp only [List.set_cons_succ]); (try simp only [List.set_cons_zero])
      refine wpAnyH_take (i := 9) (v := ?_) opAt9 (by kernel_rfl) (by kernel_rfl) (by kernel_rfl) (fun _ _ _ h => h) (Or.inl ⟨by rfl, ?_⟩) hHeld ?_
      case refine_2 => (intro w hSw; (try dsimp only at hSw); go_simp; all_goals (with_reducible rfl))
      (try simp only [Act.put]); (try simp only [List.setIfInBounds_toArray]); (try simp only [List.set_cons_succ]); (try simp only [List.set_cons_zero])
      refine wpAnyH_done (by kernel_rfl) ?_ _
      cases back with
      | false =>
        have RM := own_readsS A2.out MLEN.out
        go_wp2_with fail
        refine (tof_any V3 _ L (HRr.out.keptF K3.out) HL.out).mono ?_
        rintro e w4 ⟨rv, ov, rfl, r1, o1, k4⟩
        obtain ⟨ra, rc, er, _⟩ := id r1
        obtain ⟨oa, oc, eo, _⟩ := id o1
        obtain ⟨rn, hrn⟩ : ∃ x, (rootsF (cntF L)).len = x := ⟨_, rfl⟩
        obtain ⟨on, hon⟩ : ∃ x, (orphF (cntF L)).len = x := ⟨_, rfl⟩
        rw [hrn] at er
        rw [hon] at eo
        subst er eo
        have R1 := Lib.hid r1; have OO1 := Lib.hid o1; have K4 := Lib.hid (keptFF K3.out k4); have K34 := Lib.hid k4
        clear r1 o1 k4 hrn hon
        go_wp2_with fail
        refine (tof_any w4 _ (L.drop k ++ L.take k) ((RM).keptF K34.out) (by rw [MLEN.out]; omega)).mono ?_
        rw [cntF_order DIST.out (mem_turn L k)]
        rintro e w5 ⟨rv2, ov2, rfl, r2, o2, k5⟩
        obtain ⟨ra2, rc2, er2, _⟩ := id r2
        obtain ⟨oa2, oc2, eo2, _⟩ := id o2
        obtain ⟨rn2, hrn2⟩ : ∃ x, (rootsF (cntF L)).len = x := ⟨_, rfl⟩
        obtain ⟨on2, hon2⟩ : ∃ x, (orphF (cntF L)).len = x := ⟨_, rfl⟩
        rw [hrn2] at er2
        rw [hon2] at eo2
        subst er2 eo2
        have R2 := Lib.hid r2; have OO2 := Lib.hid o2; have K5 := Lib.hid (keptFF K4.out k5); have K45 := Lib.hid k5
        clear r2 o2 k5 hrn2 hon2
        go_wp2_with fail
        refine (same_any _ _ w5 _ _ _ _ _ _ _ _ (R1.out.kept K45.out) (OO1.out.kept K45.out) R2.out OO2.out (roots_wide _ RC.out) (orph_wide _ RC.out)).mono ?_
        rintro e w6 ⟨rfl, k6⟩
        rw [sameB_refl, sameB_refl]
        simp only [Bool.and_self]
        have K6 := Lib.hid (keptFF K5.out k6)
        clear k6
        go_wp2_with fail
        refine (does_any w6).mono ?_
        rintro e w8 ⟨rfl, k8⟩
        have K8 := Lib.hid (keptFF K6.out k8)
        clear k8
        go_wp2
        go_ret
        exact ⟨rfl, K8.out⟩
      | true =>
        obtain ⟨n1, hn1⟩ : ∃ n1, n = n1 + 1 := ⟨n - 1, by omega⟩
        have e3 : IntKind.i64.wrap ((n : Int) - 1) = (n1 : Int) := by rw [show (n : Int) - 1 = (n1 : Int) by omega]; exact IntWalk.i64_in _ (by omega)
        obtain ⟨hf, hhf⟩ : ∃ x, n / 2 = x := ⟨_, rfl⟩
        have N1 := Lib.hid hn1; have HF := Lib.hid hhf
        obtain ⟨wA, hwA⟩ : ∃ W, V3 = W := ⟨_, rfl⟩
        rw [hwA] at A2 K3
        rw [hwA]
        clear hn1 hhf hwA G1
        go_wp2
        go_loopg [10] n (fun ghv s wr => ∃ (i : Nat) (L1 : List Spn), i + ghv = n ∧ s = .int .i64 i ∧ L1.length = n ∧ wr.ownsRow b0 24 8 (.slice (some ⟨g, 0, none⟩) n cap2) n (cellsS L1) ∧ (∀ x, x ∈ L1 ↔ x ∈ L) ∧ Kept (fun k => k = g) wA wr)
        case atStart => exact ⟨0, L.drop k ++ L.take k, by omega, by go_num, MLEN.out, A2.out, mem_turn L k, Kept.refl _ _⟩
        case round =>
          obtain ⟨i, L1, hg1, rfl, hl1, hrow, hmem, hki⟩ := hrel
          have G1 := Lib.hid hg1; have ROW1 := Lib.hid hrow; have MEM := Lib.hid hmem; have KI := Lib.hid hki
          clear hg1 hrow hmem hki
          by_cases hih : i < hf
          · have j0 : (i : Int) < (n : Int) / 2 := by have := HF.out; omega
            have j1 : (0 : Int) ≤ (i : Int) := by omega
            have e1 : IntKind.i64.wrap ((i : Int) + 1) = ((i + 1 : Nat) : Int) := IntWalk.i64_in _ (by have := HF.out; omega)
            obtain ⟨q, hq⟩ : ∃ q, n1 - i = q := ⟨_, rfl⟩
            have e4 : IntKind.i64.wrap ((n1 : Int) - (i : Int)) = (q : Int) := by rw [show (n1 : Int) - (i : Int) = (q : Int) by have := HF.out; have := N1.out; omega]; exact IntWalk.i64_in _ (by have := N1.out; omega)
            have j2 : (i : Int) < (n : Int) := by have := HF.out; omega
            have j3 : (0 : Int) ≤ (q : Int) := by omega
            have j4 : (q : Int) < (n : Int) := by have := N1.out; omega
            have hjl : i < L1.length := by omega
            have hql : q < L1.length := by omega
            obtain ⟨x, hx⟩ : ∃ x, nth L1 i = x := ⟨_, rfl⟩
            obtain ⟨y, hy⟩ : ∃ y, nth L1 q = y := ⟨_, rfl⟩
            have gx := nth_get hjl; have gy := nth_get hql
            rw [hx] at gx; rw [hy] at gy
            have GX := Lib.hid gx; have GY := Lib.hid gy; have HX := Lib.hid hx; have HY := Lib.hid hy
            clear gx gy hx hy hq
            have HO := Lib.hid ((ROW1.out).drew)
            have rx := own_range HO.out GX.out
            have ry := own_range HO.out GY.out
            have HO2 := Lib.hid (own_set HO.out y hjl)
            have FO := Lib.hid (show ((wr.drew.setCells g (i * 8) y.cells).setCells g (q * 8) x.cells).ownsRow b0 24 8 (.slice (some ⟨g, 0, none⟩) n cap2) n (cellsS (swapL L1 i q)) from by
              have h := own_set HO2.out x (i := q) (by simpa using hql)
              unfold swapL
              rw [HX.out, HY.out]
              exact h)
            have KF6 := Lib.hid (Kept.setCells (S := fun k => k = g) (fun _ => rfl) x.cells (q * 8) (Kept.setCells (S := fun k => k = g) (fun _ => rfl) y.cells (i * 8) ((KI.out).drew)))
            go_wp2
            refine wp_region_any (by kernel_rfl) ?_
            simp only [List.size_toArray, List.length_cons, List.length_nil, Nat.zero_add, Nat.reduceAdd]
            refine wpAny_take (i := 0) (v := ?_) opAt0 (by kernel_rfl) (by kernel_rfl) (by kernel_rfl) (fun _ _ _ h => h) (Or.inl ⟨by rfl, ?_⟩) ?_
            case refine_2 => (intro w; go_simp; all_goals (with_reducible rfl))
            (try simp only [Act.put]); (try simp only [List.setIfInBounds_toArray]); (try simp only [List.set_cons_succ]); (try simp only [List.set_cons_zero])
            refine wpAny_take (i := 1) (v := ?_) opAt1 (by kernel_rfl) (by kernel_rfl) (by kernel_rfl) (fun _ _ _ h => h) (Or.inl ⟨by rfl, ?_⟩) ?_
            case refine_2 => (intro w; go_simp; all_goals (with_reducible rfl))
            (try simp only [Act.put]); (try simp only [List.setIfInBounds_toArray]); (try simp only [List.set_cons_succ]); (try simp only [List.set_cons_zero])
            refine wpAny_take (i := 2) (v := ?_) opAt2 (by kernel_rfl) (by kernel_rfl) (by kernel_rfl) (fun _ _ _ h => h) (Or.inl ⟨by rfl, ?_⟩) ?_
            case refine_2 => (intro w; go_simp; all_goals (with_reducible rfl))
            (try simp only [Act.put]); (try simp only [List.setIfInBounds_toArray]); (try simp only [List.set_cons_succ]); (try simp only [List.set_cons_zero])
            refine wpAny_take (i := 3) (v := ?_) opAt3 (by kernel_rfl) (by kernel_rfl) (by kernel_rfl) (fun _ _ _ h => h) (Or.inl ⟨by rfl, ?_⟩) ?_
            case refine_2 => (intro w; go_simp; all_goals (with_reducible rfl))
            (try simp only [Act.put]); (try simp only [List.setIfInBounds_toArray]); (try simp only [List.set_cons_succ]); (try simp only [List.set_cons_zero])
            refine wpAny_take (i := 4) (v := ?_) opAt4 (by kernel_rfl) (by kernel_rfl) (by kernel_rfl) (fun _ _ _ h => h) (Or.inl ⟨by rfl, ?_⟩) ?_
            case refine_2 => (intro w; go_simp; all_goals (with_reducible rfl))
            (try simp only [Act.put]); (try simp only [List.setIfInBounds_toArray]); (try simp only [List.set_cons_succ]); (try simp only [List.set_cons_zero])
            refine wpAny_take (i := 5) (v := ?_) opAt5 (by kernel_rfl) (by kernel_rfl) (by kernel_rfl) (fun _ _ _ h => h) (Or.inl ⟨by rfl, ?_⟩) ?_
            case refine_2 => (intro w; go_simp; all_goals (with_reducible rfl))
            (try simp only [Act.put]); (try simp only [List.setIfInBounds_toArray]); (try simp only [List.set_cons_succ]); (try simp only [List.set_cons_zero])
            refine wpAny_take (i := 6) (v := ?_) opAt6 (by kernel_rfl) (by kernel_rfl) (by kernel_rfl) (fun _ _ _ h => h) (Or.inl ⟨by rfl, ?_⟩) ?_
            case refine_2 => (intro w; go_simp; all_goals (with_reducible rfl))
            (try simp only [Act.put]); (try simp only [List.setIfInBounds_toArray]); (try simp only [List.set_cons_succ]); (try simp only [List.set_cons_zero])
            refine wpAny_take (i := 7) (v := ?_) opAt7 (by kernel_rfl) (by kernel_rfl) (by kernel_rfl) (fun _ _ _ h => h) (Or.inl ⟨by rfl, ?_⟩) ?_
            case refine_2 => (intro w; go_simp; all_goals (with_reducible rfl))
            (try simp only [Act.put]); (try simp only [List.setIfInBounds_toArray]); (try simp only [List.set_cons_succ]); (try simp only [List.set_cons_zero])
            refine wpAny_take (i := 8) (v := ?_) opAt8 (by kernel_rfl) (by kernel_rfl) (by kernel_rfl) (fun _ _ _ h => h) (Or.inl ⟨by rfl, ?_⟩) ?_
            case refine_2 => (intro w; go_simp; all_goals (with_reducible rfl))
            (try simp only [Act.put]); (try simp only [List.setIfInBounds_toArray]); (try simp only [List.set_cons_succ]); (try simp only [List.set_cons_zero])
            refine wpAny_take (i := 9) (v := ?_) opAt9 (by kernel_rfl) (by kernel_rfl) (by kernel_rfl) (fun _ _ _ h => h) (Or.inl ⟨by rfl, ?_⟩) ?_
            case refine_2 => (intro w; go_simp; all_goals (with_reducible rfl))
            (try simp only [Act.put]); (try simp only [List.setIfInBounds_toArray]); (try simp only [List.set_cons_succ]); (try simp only [List.set_cons_zero])
            refine wpAny_take (i := 10) (v := ?_) opAt10 (by kernel_rfl) (by kernel_rfl) (by kernel_rfl) (fun _ _ _ h => h) (Or.inl ⟨by rfl, ?_⟩) ?_
            case refine_2 => (intro w; go_simp; all_goals (with_reducible rfl))
            (try simp only [Act.put]); (try simp only [List.setIfInBounds_toArray]); (try simp only [List.set_cons_succ]); (try simp only [List.set_cons_zero])
            refine wpAny_take (i := 11) (v := ?_) opAt11 (by kernel_rfl) (by kernel_rfl) (by kernel_rfl) (fun _ _ _ h => h) (Or.inl ⟨by rfl, ?_⟩) ?_
            case refine_2 => (intro w; go_simp; all_goals (with_reducible rfl))
            (try simp only [Act.put]); (try simp only [List.setIfInBounds_toArray]); (try simp only [List.set_cons_succ]); (try simp only [List.set_cons_zero])
            refine wpAny_take (i := 12) (v := ?_) opAt12 (by kernel_rfl) (by kernel_rfl) (by kernel_rfl) (fun _ _ _ h => h) (Or.inl ⟨by rfl, ?_⟩) ?_
            case refine_2 => (intro w; go_simp; all_goals (with_reducible rfl))
            (try simp only [Act.put]); (try simp only [List.setIfInBounds_toArray]); (try simp only [List.set_cons_succ]); (try simp only [List.set_cons_zero])
            refine wpAny_take (i := 13) (v := ?_) opAt13 (by kernel_rfl) (by kernel_rfl) (by kernel_rfl) (fun _ _ _ h => h) (Or.inl ⟨by rfl, ?_⟩) ?_
            case refine_2 => (intro w; go_simp; all_goals (with_reducible rfl))
            (try simp only [Act.put]); (try simp only [List.setIfInBounds_toArray]); (try simp only [List.set_cons_succ]); (try simp only [List.set_cons_zero])
            refine wpAny_take (i := 14) (v := ?_) opAt14 (by kernel_rfl) (by kernel_rfl) (by kernel_rfl) (fun _ _ _ h => h) (Or.inl ⟨by rfl, ?_⟩) ?_
            case refine_2 => (intro w; go_simp; all_goals (with_reducible rfl))
            (try simp only [Act.put]); (try simp only [List.setIfInBounds_toArray]); (try simp only [List.set_cons_succ]); (try simp only [List.set_cons_zero])
            refine wpAny_take (i := 16) (v := ?_) opAt16 (by kernel_rfl) (by kernel_rfl) (by kernel_rfl) (fun _ _ _ h => h) (Or.inl ⟨by rfl, ?_⟩) ?_
            case refine_2 => (intro w; go_simp; all_goals (with_reducible rfl))
            (try simp only [Act.put]); (try simp only [List.setIfInBounds_toArray]); (try simp only [List.set_cons_succ]); (try simp only [List.set_cons_zero])
            refine wpAny_take (i := 17) (v := ?_) opAt17 (by kernel_rfl) (by kernel_rfl) (by kernel_rfl) (fun _ _ _ h => h) (Or.inl ⟨by rfl, ?_⟩) ?_
            case refine_2 => (intro w; go_simp; all_goals (with_reducible rfl))
            (try simp only [Act.put]); (try simp only [List.setIfInBounds_toArray]); (try simp only [List.set_cons_succ]); (try simp only [List.set_cons_zero])
            refine wpAny_take (i := 18) (v := ?_) opAt18 (by kernel_rfl) (by kernel_rfl) (by kernel_rfl) (fun _ _ _ h => h) (Or.inl ⟨by rfl, ?_⟩) ?_
            case refine_2 => (intro w; go_simp; all_goals (with_reducible rfl))
            (try simp only [Act.put]); (try simp only [List.setIfInBounds_toArray]); (try simp only [List.set_cons_succ]); (try simp only [List.set_cons_zero])
            refine wpAny_ready (rs := [15, 19]) (by kernel_rfl) (by simp) ?_
            refine AllReady.cons opAt15 (fun K hK => ?_) ?_
            · refine step_load (by rfl) 24 _ (by rfl) g (q * 8) (by rfl) y.cells _ ry Try.underlying24 rfl info24 ?_
              refine hK _ _ ?_
              clear hK K
              (try simp only [Act.put]); (try simp only [List.setIfInBounds_toArray]); (try simp only [List.set_cons_succ]); (try simp only [List.set_cons_zero])
              refine wpAny_ready (rs := [19]) (by kernel_rfl) (by simp) ?_
              refine AllReady.cons opAt19 (fun K hK => ?_) AllReady.nil
              refine step_load (by rfl) 24 _ (by rfl) g (i * 8) (by rfl) x.cells _ rx Try.underlying24 rfl info24 ?_
              refine hK _ _ ?_
              clear hK K
              (try simp only [Act.put]); (try simp only [List.setIfInBounds_toArray]); (try simp only [List.set_cons_succ]); (try simp only [List.set_cons_zero])
              refine wpAny_take (i := 20) (v := ?_) opAt20 (by kernel_rfl) (by kernel_rfl) (by kernel_rfl) (fun _ _ _ h => h) (Or.inl ⟨by rfl, ?_⟩) ?_
              case refine_2 => (intro w; go_simp; all_goals (with_reducible rfl))
              (try simp only [Act.put]); (try simp only [List.setIfInBounds_toArray]); (try simp only [List.set_cons_succ]); (try simp only [List.set_cons_zero])
              refine wpAny_ready (rs := [21]) (by kernel_rfl) (by simp) ?_
              refine AllReady.cons opAt21 (fun K hK => ?_) AllReady.nil
              refine step_store (by rfl) 24 _ _ (by rfl) g (i * 8) y.cells (by rfl) (by rfl) (own_there HO.out hjl) info24 (cells_all y) ?_
              refine hK _ _ ?_
              clear hK K
              (try simp only [Act.put]); (try simp only [List.setIfInBounds_toArray]); (try simp only [List.set_cons_succ]); (try simp only [List.set_cons_zero])
              refine wpAny_take (i := 22) (v := ?_) opAt22 (by kernel_rfl) (by kernel_rfl) (by kernel_rfl) (fun _ _ _ h => h) (Or.inl ⟨by rfl, ?_⟩) ?_
              case refine_2 => (intro w; go_simp; all_goals (with_reducible rfl))
              (try simp only [Act.put]); (try simp only [List.setIfInBounds_toArray]); (try simp only [List.set_cons_succ]); (try simp only [List.set_cons_zero])
              generalize hW2 : World.setCells _ g (i * 8) y.cells = W2
              have HOb : Hid (W2.ownsRow b0 24 8 (.slice (some ⟨g, 0, none⟩) n cap2) n (cellsS (L1.set i y))) := Lib.hid (by rw [← hW2]; exact HO2.out)
              have FOb : Hid ((W2.setCells g (q * 8) x.cells).ownsRow b0 24 8 (.slice (some ⟨g, 0, none⟩) n cap2) n (cellsS (swapL L1 i q))) := Lib.hid (by rw [← hW2]; exact FO.out)
              have KFb : Hid (Kept (fun k => k = g) wA (W2.setCells g (q * 8) x.cells)) := Lib.hid (by rw [← hW2]; exact KF6.out)
              clear hW2
              refine wpAny_last (i := 23) (o := ?o1) ?hr1 ?ho1 ?hn1 ?h1
              case ho1 => exact opAt23
              case hr1 => kernel_rfl
              case hn1 => kernel_rfl
              intro K hK
              refine step_store (by rfl) 24 _ _ (by rfl) g (q * 8) x.cells (by rfl) (by rfl) (own_there HOb.out (by simpa using hql)) info24 (cells_all x) ?_
              refine hK.out _ _ ?_
              clear hK K
              (try simp only [Act.put]); (try simp only [List.setIfInBounds_toArray]); (try simp only [List.set_cons_succ]); (try simp only [List.set_cons_zero])
              generalize hW3 : World.setCells W2 g (q * 8) x.cells = W3
              have FOc : Hid (W3.ownsRow b0 24 8 (.slice (some ⟨g, 0, none⟩) n cap2) n (cellsS (swapL L1 i q))) := Lib.hid (by rw [← hW3]; exact FOb.out)
              have KFc : Hid (Kept (fun k => k = g) wA W3) := Lib.hid (by rw [← hW3]; exact KFb.out)
              clear hW3
              go_wp2
              go_roundg (n - (i + 1))
              case measure => have := G1.out; omega
              case rel => exact ⟨i + 1, swapL L1 i q, by omega, by go_num, by simpa using hl1, FOc.out, fun z => (mem_swap hjl hql z).trans (MEM.out z), KFc.out⟩
            refine AllReady.cons opAt19 (fun K hK => ?_) AllReady.nil
            refine step_load (by rfl) 24 _ (by rfl) g (i * 8) (by rfl) x.cells _ rx Try.underlying24 rfl info24 ?_
            refine hK _ _ ?_
            clear hK K
            (try simp only [Act.put]); (try simp only [List.setIfInBounds_toArray]); (try simp only [List.set_cons_succ]); (try simp only [List.set_cons_zero])
            refine wpAny_ready (rs := [15]) (by kernel_rfl) (by simp) ?_
            refine AllReady.cons opAt15 (fun K hK => ?_) AllReady.nil
            refine step_load (by rfl) 24 _ (by rfl) g (q * 8) (by rfl) y.cells _ ry Try.underlying24 rfl info24 ?_
            refine hK _ _ ?_
            clear hK K
            (try simp only [Act.put]); (try simp only [List.setIfInBounds_toArray]); (try simp only [List.set_cons_succ]); (try simp only [List.set_cons_zero])
            refine wpAny_take (i := 20) (v := ?_) opAt20 (by kernel_rfl) (by kernel_rfl) (by kernel_rfl) (fun _ _ _ h => h) (Or.inl ⟨by rfl, ?_⟩) ?_
            case refine_2 => (intro w; go_simp; all_goals (with_reducible rfl))
            (try simp only [Act.put]); (try simp only [List.setIfInBounds_toArray]); (try simp only [List.set_cons_succ]); (try simp only [List.set_cons_zero])
            refine wpAny_ready (rs := [21]) (by kernel_rfl) (by simp) ?_
            refine AllReady.cons opAt21 (fun K hK => ?_) AllReady.nil
            refine step_store (by rfl) 24 _ _ (by rfl) g (i * 8) y.cells (by rfl) (by rfl) (own_there HO.out hjl) info24 (cells_all y) ?_
            refine hK _ _ ?_
            clear hK K
            (try simp only [Act.put]); (try simp only [List.setIfInBounds_toArray]); (try simp only [List.set_cons_succ]); (try simp only [List.set_cons_zero])
            refine wpAny_take (i := 22) (v := ?_) opAt22 (by kernel_rfl) (by kernel_rfl) (by kernel_rfl) (fun _ _ _ h => h) (Or.inl ⟨by rfl, ?_⟩) ?_
            case refine_2 => (intro w; go_simp; all_goals (with_reducible rfl))
            (try simp only [Act.put]); (try simp only [List.setIfInBounds_toArray]); (try simp only [List.set_cons_succ]); (try simp only [List.set_cons_zero])
            generalize hW2 : World.setCells _ g (i * 8) y.cells = W2
            have HOb : Hid (W2.ownsRow b0 24 8 (.slice (some ⟨g, 0, none⟩) n cap2) n (cellsS (L1.set i y))) := Lib.hid (by rw [← hW2]; exact HO2.out)
            have FOb : Hid ((W2.setCells g (q * 8) x.cells).ownsRow b0 24 8 (.slice (some ⟨g, 0, none⟩) n cap2) n (cellsS (swapL L1 i q))) := Lib.hid (by rw [← hW2]; exact FO.out)
            have KFb : Hid (Kept (fun k => k = g) wA (W2.setCells g (q * 8) x.cells)) := Lib.hid (by rw [← hW2]; exact KF6.out)
            clear hW2
            refine wpAny_last (i := 23) (o := ?o2) ?hr2 ?ho2 ?hn2 ?h2
            case ho2 => exact opAt23
            case hr2 => kernel_rfl
            case hn2 => kernel_rfl
            intro K hK
            refine step_store (by rfl) 24 _ _ (by rfl) g (q * 8) x.cells (by rfl) (by rfl) (own_there HOb.out (by simpa using hql)) info24 (cells_all x) ?_
            refine hK.out _ _ ?_
            clear hK K
            (try simp only [Act.put]); (try simp only [List.setIfInBounds_toArray]); (try simp only [List.set_cons_succ]); (try simp only [List.set_cons_zero])
            generalize hW3 : World.setCells W2 g (q * 8) x.cells = W3
            have FOc : Hid (W3.ownsRow b0 24 8 (.slice (some ⟨g, 0, none⟩) n cap2) n (cellsS (swapL L1 i q))) := Lib.hid (by rw [← hW3]; exact FOb.out)
            have KFc : Hid (Kept (fun k => k = g) wA W3) := Lib.hid (by rw [← hW3]; exact KFb.out)
            clear hW3
            go_wp2
            go_roundg (n - (i + 1))
            case measure => have := G1.out; omega
            case rel => exact ⟨i + 1, swapL L1 i q, by omega, by go_num, by simpa using hl1, FOc.out, fun z => (mem_swap hjl hql z).trans (MEM.out z), KFc.out⟩
          · have j0 : ¬ (i : Int) < (n : Int) / 2 := by have := HF.out; omega
            have RM := own_readsS ROW1.out hl1
            have KW := Lib.hid (K3.out.trans KI.out (fun _ _ f => f) (fun q h1 h2 => by cases h2; have h3 := GE.out; omega) : Kept (fun _ => False) w wr)
            go_wp2_with fail
            refine (tof_any wr _ L (HRr.out.keptF KW.out) HL.out).mono ?_
            rintro e w4 ⟨rv, ov, rfl, r1, o1, k4⟩
            obtain ⟨ra, rc, er, _⟩ := id r1
            obtain ⟨oa, oc, eo, _⟩ := id o1
            obtain ⟨rn, hrn⟩ : ∃ x, (rootsF (cntF L)).len = x := ⟨_, rfl⟩
            obtain ⟨on, hon⟩ : ∃ x, (orphF (cntF L)).len = x := ⟨_, rfl⟩
            rw [hrn] at er
            rw [hon] at eo
            subst er eo
            have R1 := Lib.hid r1; have OO1 := Lib.hid o1; have K4 := Lib.hid (keptFF KW.out k4); have K34 := Lib.hid k4
            clear r1 o1 k4 hrn hon
            go_wp2_with fail
            refine (tof_any w4 _ (L1) ((RM).keptF K34.out) (by rw [hl1]; omega)).mono ?_
            rw [cntF_order DIST.out MEM.out]
            rintro e w5 ⟨rv2, ov2, rfl, r2, o2, k5⟩
            obtain ⟨ra2, rc2, er2, _⟩ := id r2
            obtain ⟨oa2, oc2, eo2, _⟩ := id o2
            obtain ⟨rn2, hrn2⟩ : ∃ x, (rootsF (cntF L)).len = x := ⟨_, rfl⟩
            obtain ⟨on2, hon2⟩ : ∃ x, (orphF (cntF L)).len = x := ⟨_, rfl⟩
            rw [hrn2] at er2
            rw [hon2] at eo2
            subst er2 eo2
            have R2 := Lib.hid r2; have OO2 := Lib.hid o2; have K5 := Lib.hid (keptFF K4.out k5); have K45 := Lib.hid k5
            clear r2 o2 k5 hrn2 hon2
            go_wp2_with fail
            refine (same_any _ _ w5 _ _ _ _ _ _ _ _ (R1.out.kept K45.out) (OO1.out.kept K45.out) R2.out OO2.out (roots_wide _ RC.out) (orph_wide _ RC.out)).mono ?_
            rintro e w6 ⟨rfl, k6⟩
            rw [sameB_refl, sameB_refl]
            simp only [Bool.and_self]
            have K6 := Lib.hid (keptFF K5.out k6)
            clear k6
            go_wp2_with fail
            refine (does_any w6).mono ?_
            rintro e w8 ⟨rfl, k8⟩
            have K8 := Lib.hid (keptFF K6.out k8)
            clear k8
            go_wp2
            go_ret
            exact ⟨rfl, K8.out⟩
end Go.Proofs.Ytjidldbolbjdpaa
