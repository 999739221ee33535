/- spoorlaw14.TreesWhole. -/
import Derived.Test.YtjidldbolbjdpaaWholeP
import Derived.Test.YtjidldbolbjdpaaOrder
namespace Go.Proofs.Ytjidldbolbjdpaa
open Go.RowKit

theorem own_readsO {w : World} {base n cap : Nat} {la : Option Addr} {R : List Spn} (h : w.ownsRow base 24 8 (.slice la n cap) n (cellsS R)) (hl : R.length = n) : ReadsS w (.slice la n cap) R := by
  rcases row_form h with ⟨q1, q2⟩ | ⟨g, c, q1, _, _, _, hc⟩
  · exact ⟨la, cap, by rw [hl], .inl (List.eq_nil_of_length_eq_zero (by rw [hl]; exact q2))⟩
  · cases q1
    exact ⟨_, cap, by rw [hl], .inr ⟨g, 0, rfl, fun j u hu => by rw [Nat.zero_add]; exact hc j u hu⟩⟩
def parU (us : List Int) (i : Nat) : Nat := (us.getD i 0).toNat % (i + 1)
theorem parU_le (us : List Int) (i : Nat) : parU us i ≤ i := by have := Nat.mod_lt (us.getD i 0).toNat (show 0 < i + 1 by omega); unfold parU; omega
set_option maxHeartbeats 8000000 in
set_option maxRecDepth 100000 in
theorem treesWhole_any (w : World) (pa : Option Addr) (n pcap : Nat) (us : List Int) (c : Int) (hus : us.length = n) (hrd : us = [] ∨ ∃ g o, pa = some ⟨g, o, none⟩ ∧ ∀ j u, us[j]? = some u → w.cell? ⟨g, o + j, none⟩ = some (.int .u8 u)) (hub : ∀ u ∈ us, 0 ≤ u ∧ u < 256) (hm : n ≤ maxLen) (c0 : 0 ≤ c) (c1 : c < 256) :
    Calls Try.prog 8 #[.slice pa n pcap, .int .u8 c] w fun e w' => e = .returned (.bool true) ∧ Kept (fun _ => False) w w' := by
  have HN := Lib.hid hus; have HUB := Lib.hid hub
  unfold maxLen at hm
  clear hus hub
  by_cases hbig : 60 < n
  · have h0 : (60 : Int) < (n : Int) := by omega
    go_enter Try.func8, Try.ntmps8
    go_wp2_with fail
    refine (does_any w).mono ?_
    rintro e w2 ⟨rfl, k2⟩
    have K2 := Lib.hid k2
    clear k2
    go_wp2
    go_ret
    exact ⟨rfl, K2.out⟩
  by_cases hz : n = 0
  · have h0 : ¬ (60 : Int) < (n : Int) := by omega
    have h1 : ((n : Int) == 0) = true := by simp [hz]
    go_enter Try.func8, Try.ntmps8
    go_wp2_with fail
    refine (does_any w).mono ?_
    rintro e w2 ⟨rfl, k2⟩
    have K2 := Lib.hid k2
    clear k2
    go_wp2
    go_ret
    exact ⟨rfl, K2.out⟩
  have h0 : ¬ (60 : Int) < (n : Int) := by omega
  have hz1 : ((n : Int) == 0) = false := by simp [hz]
  have hz2 : ¬ (n : Int) = 0 := by omega
  have hn60 : n ≤ 60 := by omega
  obtain ⟨i24, hi24, z24, s24, b24⟩ := info_parts inf24
  obtain ⟨b0, hb0⟩ : ∃ b, w.heap.size = b := ⟨_, rfl⟩
  have HB0 := Lib.hid hb0
  obtain ⟨k, hk⟩ : ∃ k, c.toNat % n = k := ⟨_, rfl⟩
  have hkl : k < n := by have := Nat.mod_lt c.toNat (show 0 < n by omega); omega
  have ek : c.tmod (n : Int) = (k : Int) := by
    rw [Int.tmod_eq_emod_of_nonneg c0, ← hk]
    have : c = ((c.toNat : Nat) : Int) := by omega
    rw [this]; simp
  obtain ⟨k1, hk1⟩ : ∃ k1, k + 1 = k1 := ⟨_, rfl⟩
  have ek1 : IntKind.i64.wrap ((k : Int) + 1) = (k1 : Int) := by rw [show (k : Int) + 1 = (k1 : Int) by omega]; exact IntWalk.i64_in _ (by omega)
  have HK1 := Lib.hid hk1
  obtain ⟨m, hmn⟩ : ∃ m, n - 1 = m := ⟨_, rfl⟩
  have HM := Lib.hid hmn
  have hm60 : m ≤ 59 := by omega
  obtain ⟨gp, op, rfl, hc⟩ : ∃ g o, pa = some ⟨g, o, none⟩ ∧ ∀ j u, us[j]? = some u → w.cell? ⟨g, o + j, none⟩ = some (.int .u8 u) := by
    rcases hrd with h | h
    · have := HN.out; subst h; simp at this; omega
    · exact h
  obtain ⟨p, hp⟩ : ∃ p, parU us = p := ⟨_, rfl⟩
  have HP := Lib.hid hp; have HC := Lib.hid hc
  have PLE := Lib.hid (show ∀ i, p i ≤ i from by rw [← hp]; exact parU_le us)
  clear hbig hz hb0 hk hk1 hmn hrd hp hc
  go_enter Try.func8, Try.ntmps8
  go_wp2
  go_loopg [5, 6] n (fun ghv s5 s6 wr => ∃ (i : Nat) (la : Option Addr) (cap : Nat), i + ghv = n ∧ s6 = .int .i64 i ∧ s5 = .slice la i cap ∧ wr.ownsRow b0 24 8 (.slice la i cap) i (cellsS (whL p i)) ∧ Kept (fun _ => False) w wr)
  case atStart => exact ⟨0, none, 0, by omega, by go_num, rfl, own_nil _ _ _ _, Kept.refl _ _⟩
  case round =>
    obtain ⟨i, la, cap, hg1, rfl, rfl, hrow, hkk⟩ := hrel
    have G1 := Lib.hid hg1; have ROW := Lib.hid hrow; have KK := Lib.hid hkk
    clear hg1 hrow hkk
    by_cases hin : i < n
    · have i0 : (i : Int) < (n : Int) := by omega
      have i1 : (0 : Int) ≤ (i : Int) := by omega
      obtain ⟨j, hj⟩ : ∃ j, i + 1 = j := ⟨_, rfl⟩
      have e1 : IntKind.i64.wrap ((i : Int) + 1) = (j : Int) := by rw [show (i : Int) + 1 = (j : Int) by omega]; exact IntWalk.i64_in _ (by omega)
      have hj0 : ¬ (j : Int) = 0 := by omega
      obtain ⟨u, hu⟩ : ∃ u, us.getD i 0 = u := ⟨_, rfl⟩
      have gu : us[i]? = some u := by
        have hl : i < us.length := by rw [HN.out]; exact hin
        rw [List.getElem?_eq_getElem hl, ← hu]; simp [hl]
      have u0 := (HUB.out u (List.mem_of_getElem? gu)).1
      have u1 := (HUB.out u (List.mem_of_getElem? gu)).2
      have cu := KK.out.cell (HC.out i u gu) (fun f => f)
      obtain ⟨q, hq⟩ : ∃ q, p i = q := ⟨_, rfl⟩
      have eq_ : u.tmod (j : Int) = (q : Int) := by
        rw [Int.tmod_eq_emod_of_nonneg u0, ← hq, ← HP.out, parU, hu, hj]
        have : u = ((u.toNat : Nat) : Int) := by omega
        rw [this]; simp
      have PI := Lib.hid hq; have HJ := Lib.hid hj
      clear hq hj hu gu
      by_cases hq0 : 0 < q
      · have q0 : (0 : Int) < (q : Int) := by omega
        go_wp2_with fail
        refine (some_any wr _ _).mono ?_
        rintro e w3 ⟨rfl, k3⟩
        have KW3 := Lib.hid (keptFF KK.out k3)
        have B3 := Lib.hid (show b0 ≤ w3.heap.size from by have h1 := KW3.out.size; have h2 := HB0.out; omega)
        have ROW3 := Lib.hid (own_keptS ROW.out k3 (fun _ _ f => f))
        clear k3
        unfold someS
        go_wp2_with (at_builtin; (refine wpList_step (fun _ hK => step_app (by rfl) _ _ 22 (by rfl) b0 24 i24 _ 8 88 Try.underlying22 hi24 z24 s24 b24 (by rfl) (by decide) (.slice la i cap) i (cellsS (whL p i)) (by rfl) (ROW3.out.alloc _) ⟨w3.heap.size, 0, none⟩ 1 1 (someS (j : Int) (q : Int)).cells (by rfl) (by rfl) (World.news_of_block (heap_alloc_new w3 _)) (fun u hu => cellsS_one [someS (j : Int) (q : Int)] u (by simpa [cellsS] using hu)) (by unfold maxLen; omega) (by omega) (((Kept.refl (fun _ => False) w3).alloc _).size |> Nat.le_trans B3.out) ?_)); intro ao3 cap3 w5 hown hgr hat; refine hK _ _ ?_; clear hK; have O3 := Lib.hid hown; have KW5 := Lib.hid ((KW3.out.alloc _).trans (grown_kept hgr) (fun _ _ f => f) (fun q h1 h2 => by have h3 := (own_lt ROW3.out h2).1; have h4 := HB0.out; omega) : Kept (fun _ => False) w w5); clear hown hgr hat)
        go_roundg (n - (i + 1))
        case measure => have := G1.out; omega
        case rel => exact ⟨i + 1, ao3, cap3, by omega, by rw [HJ.out], by rw [HJ.out], by rw [whL_snoc, cellsS_append, PI.out]; have h := O3.out; rw [HJ.out] at h ⊢; simpa [cellsS] using h, KW5.out⟩
      · have q0 : ¬ (0 : Int) < (q : Int) := by omega
        obtain rfl : q = 0 := by omega
        go_wp2_with fail
        refine (some_any wr _ _).mono ?_
        rintro e w3 ⟨rfl, k3⟩
        have KW3 := Lib.hid (keptFF KK.out k3)
        have B3 := Lib.hid (show b0 ≤ w3.heap.size from by have h1 := KW3.out.size; have h2 := HB0.out; omega)
        have ROW3 := Lib.hid (own_keptS ROW.out k3 (fun _ _ f => f))
        clear k3
        unfold someS
        go_wp2_with (at_builtin; (refine wpList_step (fun _ hK => step_app (by rfl) _ _ 22 (by rfl) b0 24 i24 _ 8 88 Try.underlying22 hi24 z24 s24 b24 (by rfl) (by decide) (.slice la i cap) i (cellsS (whL p i)) (by rfl) (ROW3.out.alloc _) ⟨w3.heap.size, 0, none⟩ 1 1 (someS (j : Int) 0).cells (by rfl) (by rfl) (World.news_of_block (heap_alloc_new w3 _)) (fun u hu => cellsS_one [someS (j : Int) 0] u (by simpa [cellsS] using hu)) (by unfold maxLen; omega) (by omega) (((Kept.refl (fun _ => False) w3).alloc _).size |> Nat.le_trans B3.out) ?_)); intro ao3 cap3 w5 hown hgr hat; refine hK _ _ ?_; clear hK; have O3 := Lib.hid hown; have KW5 := Lib.hid ((KW3.out.alloc _).trans (grown_kept hgr) (fun _ _ f => f) (fun q h1 h2 => by have h3 := (own_lt ROW3.out h2).1; have h4 := HB0.out; omega) : Kept (fun _ => False) w w5); clear hown hgr hat)
        go_roundg (n - (i + 1))
        case measure => have := G1.out; omega
        case rel => exact ⟨i + 1, ao3, cap3, by omega, by rw [HJ.out], by rw [HJ.out], by rw [whL_snoc, cellsS_append, PI.out]; have h := O3.out; rw [HJ.out] at h ⊢; simpa [cellsS] using h, KW5.out⟩
    · have i0 : ¬ (i : Int) < (n : Int) := by omega
      obtain rfl : n = i := by have := G1.out; omega
      obtain ⟨L, hL⟩ : ∃ L, whL p n = L := ⟨_, rfl⟩
      have GRW := Lib.hid (show Grows L from by rw [← hL]; exact whL_grows p PLE.out n)
      have LLEN := Lib.hid (show L.length = n from by rw [← hL]; exact whL_len p n)
      have LK := Lib.hid (show (nth L k).id = (k1 : Int) from by rw [← hL, whL_nth p hkl, ← HK1.out]; rfl)
      rw [hL] at ROW
      clear hL
      have CNTL := Lib.hid (cnt_rise GRW.out.rise)
      have RL := own_readsO ROW.out LLEN.out
      have HL := Lib.hid (show L.length ≤ 1000 from by rw [LLEN.out]; omega)
      go_wp2_with fail
      refine (tof_any wr _ L RL HL.out).mono ?_
      rw [CNTL.out]
      rintro e w1 ⟨rv, ov, rfl, r1, o1, k1'⟩
      obtain ⟨ra, rc, er, _⟩ := id r1
      obtain ⟨oa, oc, eo, _⟩ := id o1
      rw [orph_nil GRW.out, Fr.len] at eo
      obtain ⟨rn, hrn⟩ : ∃ x, (rootsF L).len = x := ⟨_, rfl⟩
      rw [hrn] at er
      subst er eo
      have SZL := Lib.hid (show (rootsF L).size + (orphF L).size = n from by rw [← size_flat, ← size_flat, flat_size, LLEN.out])
      have R1 := Lib.hid r1; have O1 := Lib.hid o1; have KT1 := Lib.hid k1'
      obtain ⟨tb, htb⟩ : ∃ b, w1.heap.size = b := ⟨_, rfl⟩
      obtain ⟨w2, hw2⟩ : ∃ W, w1.alloc (.cells #[.slice ra rn rc, .slice oa 0 oc] 28) = W := ⟨_, rfl⟩
      have KT := Lib.hid (show Kept (fun _ => False) w1 w2 from by rw [← hw2]; exact (Kept.refl _ w1).alloc _)
      have c0' : w2.cell? ⟨tb, 0, none⟩ = some (.slice ra rn rc) := by rw [← hw2, ← htb]; simp
      have c1' : w2.cell? ⟨tb, 1, none⟩ = some (.slice oa 0 oc) := by rw [← hw2, ← htb]; simp
      have KR2 := Lib.hid (keptFF KT1.out KT.out)
      clear r1 o1 k1' hrn
      have d0 : ((n : Int) != (n : Int)) = false := by simp
      go_wp2_with fail
      clear hw2 htb
      refine (count_any _ w2 _ _ _ _ (R1.out.kept KT.out) (O1.out.kept KT.out) (by rw [SZL.out]; omega)).mono ?_
      rintro e w4 ⟨rfl, k4⟩
      rw [SZL.out]
      have KR4 := Lib.hid (keptFF KR2.out k4)
      have KW4 := Lib.hid (keptFF KK.out KR4.out)
      clear k4 c0' c1'
      go_wp2
      have ROW4 := Lib.hid (own_keptS ROW.out KR4.out (fun _ _ f => f))
      obtain ⟨X1, _, rs1, _, sr1, _⟩ := slices_of ROW4.out LLEN.out k (by omega)
      obtain ⟨_, X2, _, rs2, _, sr2⟩ := slices_of ROW4.out LLEN.out k1 (by have := HK1.out; omega)
      have SRC1 := Lib.hid sr1; have SRC2 := Lib.hid sr2
      clear sr1 sr2
      refine wp_region_held_drew (S := (fun _ => True)) (by kernel_rfl) ?_ (fun hHeld => ?_)
      · trivial
      refine wpAnyH_take (i := 1) (v := ?_) opAt1 (by kernel_rfl) (by kernel_rfl) (by kernel_rfl) (fun _ _ _ h => h) (Or.inl ⟨by rfl, ?_⟩) hHeld ?_
      case refine_2 => (intro w hSw; (try dsimp only at hSw); go_simp; all_goals (with_reducible rfl))
      (try simp only [Act.put]); (try simp only [List.setIfInBounds_toArray]); (try simp only [List.set_cons_succ]); (try simp only [List.set_cons_zero])
      refine wpAnyH_take (i := 2) (v := ?_) opAt2 (by kernel_rfl) (by kernel_rfl) (by kernel_rfl) (fun _ _ _ h => h) (Or.inl ⟨by rfl, ?_⟩) hHeld ?_
      case refine_2 => (intro w hSw; (try dsimp only at hSw); go_simp; all_goals (with_reducible rfl))
      (try simp only [Act.put]); (try simp only [List.setIfInBounds_toArray]); (try simp only [List.set_cons_succ]); (try simp only [List.set_cons_zero])
      refine wpAnyH_take (i := 3) (v := ?_) opAt3 (by kernel_rfl) (by kernel_rfl) (by kernel_rfl) (fun _ _ _ h => h) (Or.inl ⟨by rfl, ?_⟩) hHeld ?_
      case refine_2 => (intro w hSw; (try dsimp only at hSw); go_simp; all_goals (with_reducible rfl))
      (try simp only [Act.put]); (try simp only [List.setIfInBounds_toArray]); (try simp only [List.set_cons_succ]); (try simp only [List.set_cons_zero])
      refine wpAnyH_take (i := 5) (v := ?_) opAt5 (by kernel_rfl) (by kernel_rfl) (by kernel_rfl) (fun _ _ _ h => h) (Or.inl ⟨by rfl, ?_⟩) hHeld ?_
      case refine_2 => (intro w hSw; (try dsimp only at hSw); go_simp; all_goals (with_reducible rfl))
      (try simp only [Act.put]); (try simp only [List.setIfInBounds_toArray]); (try simp only [List.set_cons_succ]); (try simp only [List.set_cons_zero])
      refine wpAnyH_take (i := 6) (v := ?_) opAt6 (by kernel_rfl) (by kernel_rfl) (by kernel_rfl) (fun _ _ _ h => h) (Or.inl ⟨by rfl, ?_⟩) hHeld ?_
      case refine_2 => (intro w hSw; (try dsimp only at hSw); go_simp; all_goals (with_reducible rfl))
      (try simp only [Act.put]); (try simp only [List.setIfInBounds_toArray]); (try simp only [List.set_cons_succ]); (try simp only [List.set_cons_zero])
      refine wpAnyH_take (i := 7) (v := ?_) opAt7 (by kernel_rfl) (by kernel_rfl) (by kernel_rfl) (fun _ _ _ h => h) (Or.inl ⟨by rfl, ?_⟩) hHeld ?_
      case refine_2 => (intro w hSw; (try dsimp only at hSw); go_simp; all_goals (with_reducible rfl))
      (try simp only [Act.put]); (try simp only [List.setIfInBounds_toArray]); (try simp only [List.set_cons_succ]); (try simp only [List.set_cons_zero])
      refine wpAnyH_take (i := 8) (v := ?_) opAt8 (by kernel_rfl) (by kernel_rfl) (by kernel_rfl) (fun _ _ _ h => h) (Or.inl ⟨by rfl, ?_⟩) hHeld ?_
      case refine_2 => (intro w hSw; (try dsimp only at hSw); go_simp; all_goals (with_reducible rfl))
      (try simp only [Act.put]); (try simp only [List.setIfInBounds_toArray]); (try simp only [List.set_cons_succ]); (try simp only [List.set_cons_zero])
      refine wpAnyH_gen (fun V => Kept (fun _ => False) w V ∧ Kept (fun _ => False) w4 V) ⟨KW4.out.drew, (Kept.refl _ w4).drew⟩ ?_
      intro V0 k0'
      have K0 := Lib.hid k0'
      clear k0'
      refine wpAnyH_ready (rs := [0]) (by kernel_rfl) (by simp) ?_
      refine AllReadyH.cons opAt0 (fun K hK => ?_) AllReadyH.nil
      go_simp
      have ho := World.ownsRow_made V0 #[] 0 (show b0 ≤ V0.heap.size from by have h1 := K0.out.1.size; have h2 := HB0.out; omega) (by unfold maxLen; omega) (by rfl) (e := 24) (size := 8) (base := b0)
      have hk := (Kept.refl (fun _ => False) V0).alloc (.cells #[] 24)
      have ge := K0.out.2.size
      generalize hV : V0.alloc (.cells #[] 24) = V1 at ho hk ⊢
      generalize he : V0.heap.size = e0 at ho ge ⊢
      have E := Lib.hid ho
      have EG := Lib.hid ge
      have K1 := Lib.hid (keptFF K0.out.1 hk)
      have Q1 := Lib.hid (keptFF K0.out.2 hk)
      clear ho hk ge hV he
      refine hK.out _ _ ?_ (fun hHeld => ?_)
      · trivial
      clear hK K
      (try simp only [Act.put]); (try simp only [List.setIfInBounds_toArray]); (try simp only [List.set_cons_succ]); (try simp only [List.set_cons_zero])
      refine wpAnyH_ready (rs := [4]) (by kernel_rfl) (by simp) ?_
      refine AllReadyH.cons opAt4 (fun K hK => ?_) AllReadyH.nil
      refine step_appG (by rfl) _ _ 22 (by rfl) b0 24 i24 _ 8 88 Try.underlying22 hi24 z24 s24 b24 (by rfl) (by decide) _ 0 [] (by rfl) E.out k (cellsS (L.take k)) X1 (by rfl) (SRC1.out.kept Q1.out) (by rw [cellsS_length, List.length_take, Nat.min_eq_left (by rw [LLEN.out]; omega)]) (cellsS_one _) (by unfold maxLen; omega) (by omega) (by have h1 := K1.out.size; have h2 := HB0.out; omega) ?_
      intro ao1 cap1 V2 hown hk hat
      rw [Nat.zero_add, List.nil_append] at hown
      rw [Nat.zero_add] at hat ⊢
      have A1 := Lib.hid hown
      have A1G := Lib.hid (show ∀ q, (Value.slice ao1 k cap1).ownBlock = some q → w4.heap.size ≤ q from fun q hq => hat.elim (fun h => by rw [h] at hq; cases hq; exact EG.out) (fun h => by rw [h] at hq; cases hq; exact Q1.out.size))
      have Q2 := Lib.hid (Q1.out.trans hk (fun _ _ f => f) (fun q h1 h2 => by cases h2; have h3 := EG.out; have h4 : e0 < w4.heap.size := h1; omega) : Kept (fun _ => False) w4 V2)
      have K2 := Lib.hid (keptFF KW4.out Q2.out)
      clear hown hk hat
      refine hK.out _ _ ?_ (fun hHeld => ?_)
      · trivial
      clear hK K
      (try simp only [Act.put]); (try simp only [List.setIfInBounds_toArray]); (try simp only [List.set_cons_succ]); (try simp only [List.set_cons_zero])
      refine wpAnyH_ready (rs := [9]) (by kernel_rfl) (by simp) ?_
      refine AllReadyH.cons opAt9 (fun K hK => ?_) AllReadyH.nil
      refine step_appG (by rfl) _ _ 22 (by rfl) b0 24 i24 _ 8 88 Try.underlying22 hi24 z24 s24 b24 (by rfl) (by decide) _ k _ (by rfl) A1.out (n - k1) (cellsS (L.drop k1)) X2 (by rfl) (SRC2.out.kept Q2.out) (by rw [cellsS_length, List.length_drop, LLEN.out]) (cellsS_one _) (by unfold maxLen; omega) (by omega) (by have h1 := K2.out.size; have h2 := HB0.out; omega) ?_
      intro ao2 cap2 V3 hown hk hat
      rw [show k + (n - k1) = m by have := HK1.out; have := HM.out; omega, ← cellsS_append] at hown
      rw [show k + (n - k1) = m by have := HK1.out; have := HM.out; omega]
      have A2 := Lib.hid hown
      have Q3 := Lib.hid (Q2.out.trans hk (fun _ _ f => f) (fun q h1 h2 => by have h3 := A1G.out q h2; omega) : Kept (fun _ => False) w4 V3)
      have K3 := Lib.hid (keptFF KW4.out Q3.out)
      clear hown hk hat
      refine hK.out _ _ ?_ (fun hHeld => ?_)
      · trivial
      clear hK K
      (try simp only [Act.put]); (try simp only [List.setIfInBounds_toArray]); (try simp only [List.set_cons_succ]); (try simp only [List.set_cons_zero])
      refine wpAnyH_take (i := 10) (v := ?_) opAt10 (by kernel_rfl) (by kernel_rfl) (by kernel_rfl) (fun _ _ _ h => h) (Or.inl ⟨by rfl, ?_⟩) hHeld ?_
      case refine_2 => (intro w hSw; (try dsimp only at hSw); go_simp; all_goals (with_reducible rfl))
      (try simp only [Act.put]); (try simp only [List.setIfInBounds_toArray]); (try simp only [List.set_cons_succ]); (try simp only [List.set_cons_zero])
      refine wpAnyH_done (by kernel_rfl) ?_ _
      obtain ⟨M, hM⟩ : ∃ M, L.take k ++ L.drop k1 = M := ⟨_, rfl⟩
      have hM' : L.take k ++ L.drop (k + 1) = M := by rw [HK1.out]; exact hM
      have hkL : k < L.length := by rw [LLEN.out]; exact hkl
      have MLEN := Lib.hid (show M.length = m from by rw [← hM', len_without hkL, LLEN.out]; exact HM.out)
      have CNTM := Lib.hid (show cntF M = M from by rw [← hM']; exact cnt_rise (rise_without GRW.out.rise hkL))
      have HEAD := Lib.hid (show ∀ j, j < M.length → hdF M j = ((nth M j).pa == (k1 : Int)) from by
        intro j hj; rw [← hM'] at hj; have := head_without GRW.out hkL hj; rwa [hM', LK.out] at this)
      have TOPS := Lib.hid (show ∀ x ∈ (orphF M).tops, x.pa = (k1 : Int) from by have := tops_without GRW.out hkL; rwa [hM', LK.out] at this)
      rw [hM] at A2
      clear hM hM' hkL
      have RM := own_readsO A2.out MLEN.out
      have SZM := Lib.hid (show (rootsF M).size + (orphF M).size = m from by rw [← size_flat, ← size_flat, flat_size, MLEN.out])
      go_wp2_with fail
      refine (tof_any V3 _ M RM (by rw [MLEN.out]; omega)).mono ?_
      rw [CNTM.out]
      rintro e w6 ⟨rv2, ov2, rfl, r2, o2, k6⟩
      obtain ⟨S, hS⟩ : ∃ S : Nat → Prop, S = fun k => V3.heap.size ≤ k := ⟨_, rfl⟩
      rw [← hS] at r2 o2
      clear hS
      obtain ⟨ra2, rc2, er2, _⟩ := id r2
      obtain ⟨oa2, oc2, eo2, _⟩ := id o2
      obtain ⟨rn2, hrn2⟩ : ∃ x, (rootsF M).len = x := ⟨_, rfl⟩
      obtain ⟨on, hon⟩ : ∃ x, (orphF M).len = x := ⟨_, rfl⟩
      rw [hrn2] at er2
      rw [hon] at eo2
      subst er2 eo2
      obtain ⟨tb2, htb2⟩ : ∃ b, w6.heap.size = b := ⟨_, rfl⟩
      obtain ⟨w7, hw7⟩ : ∃ W, w6.alloc (.cells #[.slice ra2 rn2 rc2, .slice oa2 on oc2] 28) = W := ⟨_, rfl⟩
      have KT2 := Lib.hid (show Kept (fun _ => False) w6 w7 from by rw [← hw7]; exact (Kept.refl _ w6).alloc _)
      have c0' : w7.cell? ⟨tb2, 0, none⟩ = some (.slice ra2 rn2 rc2) := by rw [← hw7, ← htb2]; simp
      have c1' : w7.cell? ⟨tb2, 1, none⟩ = some (.slice oa2 on oc2) := by rw [← hw7, ← htb2]; simp
      have T0 := Lib.hid c0'; have T1 := Lib.hid c1'
      have R7 := Lib.hid (r2.kept KT2.out); have O7 := Lib.hid (o2.kept KT2.out)
      have Q7 := Lib.hid (keptFF k6 KT2.out)
      have K7 := Lib.hid (keptFF K3.out Q7.out)
      have OON := Lib.hid hon
      clear r2 o2 k6 hrn2 c0' c1' hon G1
      go_wp2
      clear hw7 htb2
      go_loopg [13, 14] m (fun ghv s13 s14 wr => ∃ (i cc : Nat), i + ghv = m ∧ s14 = .int .i64 i ∧ s13 = .int .i64 cc ∧ (orphL M i).length = cc ∧ w7 = wr)
      case atStart => exact ⟨0, 0, by omega, by go_num, by go_num, rfl, rfl⟩
      case round =>
        obtain ⟨i, cc, hg1, rfl, rfl, hcc, rfl⟩ := hrel
        have G1 := Lib.hid hg1; have CC := Lib.hid hcc
        clear hg1 hcc
        have t1 := T1.out
        have t0 := T0.out
        by_cases him : i < m
        · have i0 : (i : Int) < (m : Int) := by omega
          have i1 : (0 : Int) ≤ (i : Int) := by omega
          have e1 : IntKind.i64.wrap ((i : Int) + 1) = ((i + 1 : Nat) : Int) := IntWalk.i64_in _ (by omega)
          have hcm : cc ≤ 60 := by
            have h1 := CC.out
            have h2 : (orphL M i).length ≤ i := by unfold orphL; exact Nat.le_trans (List.length_filter_le _ _) (by simp)
            omega
          have e2 : IntKind.i64.wrap ((cc : Int) + 1) = ((cc + 1 : Nat) : Int) := IntWalk.i64_in _ (by omega)
          obtain ⟨gm, rfl, _, _⟩ := row_some2 A2.out (by omega)
          obtain ⟨x, hx⟩ : ∃ x, nth M i = x := ⟨_, rfl⟩
          have gx := nth_get (l := M) (k := i) (by rw [MLEN.out]; exact him)
          rw [hx] at gx
          have cp := Q7.out.cell (own_cellN A2.out (i := i * 8 + 2) (u := .int .i64 x.pa) (by rw [cellsS_at _ _ _ gx 2 (by omega)]; rfl)) (fun f => f)
          have HDM := Lib.hid (show hdF M i = (x.pa == (k1 : Int)) from by rw [← hx]; exact HEAD.out i (by rw [MLEN.out]; exact him))
          clear hx gx
          by_cases hpk : x.pa = (k1 : Int)
          · have d1 : (x.pa == (k1 : Int)) = true := by simp [hpk]
            have HT := Lib.hid (show hdF M i = true from by rw [HDM.out, d1])
            clear hpk
            go_wp2
            go_roundg (m - (i + 1))
            case measure => have := G1.out; omega
            case rel => exact ⟨i + 1, cc + 1, by omega, by go_num, by go_num, by rw [orphL_snoc HT.out, List.length_append, CC.out]; rfl, rfl⟩
          · have d1 : (x.pa == (k1 : Int)) = false := by simp [hpk]
            have HT := Lib.hid (show hdF M i = false from by rw [HDM.out, d1])
            clear hpk
            go_wp2
            go_roundg (m - (i + 1))
            case measure => have := G1.out; omega
            case rel => exact ⟨i + 1, cc, by omega, by go_num, rfl, by rw [orphL_skip HT.out, CC.out], rfl⟩
        · have i0 : ¬ (i : Int) < (m : Int) := by omega
          obtain rfl : cc = on := by rw [← CC.out, ← OON.out, orphF, forF_len, MLEN.out, show i = m by have := G1.out; omega]
          have d0 : ((cc : Int) != (cc : Int)) = false := by simp
          have d1 : ((m : Int) != (m : Int)) = false := by simp
          go_wp2_with fail
          refine (count_any _ w7 _ _ _ _ R7.out O7.out (by rw [SZM.out]; omega)).mono ?_
          rintro e w8 ⟨rfl, k8⟩
          rw [SZM.out]
          have K8 := Lib.hid (keptFF K7.out k8)
          have T8 := Lib.hid (k8.cell T1.out (fun f => f))
          have o8 := O7.out.kept k8
          obtain ⟨_, _, eo8, ho8⟩ := id o8
          have OOR := Lib.hid (show orphF M = .nil ∨ ∃ g o, oa2 = some ⟨g, o, none⟩ ∧ RowF S w8 g o (orphF M) from by cases eo8; exact ho8)
          obtain ⟨on, hon⟩ : ∃ x, cc = x := ⟨_, rfl⟩
          rw [hon] at OON T8
          have hon1 : on ≤ 60 := by
            rw [← hon, ← CC.out]; unfold orphL; exact Nat.le_trans (List.length_filter_le _ _) (by simp; have := G1.out; omega)
          simp only [hon]
          clear k8 o8 eo8 ho8 t0 t1 hon d0
          go_wp2
          go_loopg [15] on (fun ghv s wr => ∃ (i : Nat) (r : Fr), i + ghv = on ∧ s = .int .i64 i ∧ i + r.len = on ∧ (∀ x ∈ r.tops, x.pa = (k1 : Int)) ∧ (∀ g o, oa2 = some ⟨g, o, none⟩ → orphF M = .nil ∨ RowF S w8 g (o + i * 9) r) ∧ w8 = wr)
          case atStart => exact ⟨0, orphF M, by omega, by go_num, by have := OON.out; omega, TOPS.out, fun g o e => OOR.out.imp id (fun ⟨g', o', e', h⟩ => by rw [e] at e'; cases e'; rw [Nat.zero_mul, Nat.add_zero]; exact h), rfl⟩
          case round =>
            obtain ⟨i, r, hg1, rfl, hl1, hc1, hr1, rfl⟩ := hrel
            have G1 := Lib.hid hg1; have L1 := Lib.hid hl1; have HC1 := Lib.hid hc1; have HR1 := Lib.hid hr1
            clear hg1 hl1 hc1 hr1
            have t1 := T8.out
            by_cases hin : i < on
            · have i0 : (i : Int) < (on : Int) := by omega
              have i1 : (0 : Int) ≤ (i : Int) := by omega
              have e1 : IntKind.i64.wrap ((i : Int) + 1) = ((i + 1 : Nat) : Int) := IntWalk.i64_in _ (by omega)
              cases r with
              | nil => have := L1.out; simp [Fr.len] at this; omega
              | cons s kk r =>
                obtain ⟨g, o, rfl, _⟩ : ∃ g o, oa2 = some ⟨g, o, none⟩ ∧ RowF S w8 g o (orphF M) := by
                  rcases OOR.out with h | h
                  · have := OON.out; rw [h] at this; simp [Fr.len] at this; omega
                  · exact h
                have nn1 : orphF M ≠ .nil := fun e => by have := OON.out; rw [e] at this; simp [Fr.len] at this; omega
                obtain ⟨_, hs, _, rr⟩ := (HR1.out g o rfl).resolve_left nn1
                have RR := Lib.hid rr
                have c2 := hs 2 _ rfl
                have hpa := HC1.out s (by simp [Fr.tops])
                have d1 : (s.pa != (k1 : Int)) = false := by simp [hpa]
                clear hs rr nn1 hpa
                go_wp2
                go_roundg (on - (i + 1))
                case measure => have := G1.out; omega
                case rel => exact ⟨i + 1, r, by omega, by go_num, by have h := L1.out; simp only [Fr.len] at h; omega, fun x hx => HC1.out x (by simp [Fr.tops, hx]), fun g' o' e => .inr (by cases e; rw [Nat.succ_mul, ← Nat.add_assoc]; exact RR.out), rfl⟩
            · have i0 : ¬ (i : Int) < (on : Int) := by omega
              go_wp2_with fail
              refine (does_any w8).mono ?_
              rintro e w9 ⟨rfl, k9⟩
              have K9 := Lib.hid (keptFF K8.out k9)
              clear k9
              go_wp2
              go_ret
              exact ⟨rfl, K9.out⟩
end Go.Proofs.Ytjidldbolbjdpaa
