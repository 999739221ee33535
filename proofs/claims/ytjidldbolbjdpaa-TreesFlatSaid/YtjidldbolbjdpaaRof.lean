/- spoorref14.Of. -/
import Derived.Test.YtjidldbolbjdpaaRnode
namespace Go.Proofs.Ytjidldbolbjdpaa
open Go.RowKit

set_option maxHeartbeats 8000000 in
set_option maxRecDepth 100000 in
theorem rof_any (w : World) (v : Value) (L : List Spn) (h : ReadsS w v L) (hl : L.length ≤ 1000) :
    Calls Try.prog 11 #[v] w fun e w' => ∃ rv ov, e = .returned (.agg #[rv, ov]) ∧ ReadsF (fun k => w.heap.size ≤ k) w' rv (rootsF (cntF L)) ∧ ReadsF (fun k => w.heap.size ≤ k) w' ov (orphF (cntF L)) ∧ Kept (fun _ => False) w w' := by
  obtain ⟨rb, hrb⟩ : ∃ n, w.heap.size = n := ⟨_, rfl⟩
  obtain ⟨W1, hW1⟩ : ∃ W, w.alloc (.cells #[.slice none 0 0, .slice none 0 0] 28) = W := ⟨_, rfl⟩
  have K1 := Lib.hid (show Kept (fun _ => False) w W1 by rw [← hW1]; exact (Kept.refl _ w).alloc _)
  have T1 := Lib.hid (show W1.ownsRow rb 28 2 (.slice (some ⟨rb, 0, none⟩) 1 1) 1 [.slice none 0 0, .slice none 0 0] by rw [← hW1, ← hrb]; exact tree_new w)
  have S1 := Lib.hid (show W1.heap.size = rb + 1 by rw [← hW1, ← hrb]; exact Array.size_push _)
  have HRB := Lib.hid hrb
  have HV := Lib.hid h
  clear h
  obtain ⟨i39, hi39, z39, s39, b39⟩ := info_parts inf39
  go_enter Try.func11, Try.ntmps11
  go_wp2_with fail
  clear hW1 hrb
  refine (counted_any W1 v L (HV.out.keptF K1.out) hl).mono ?_
  rintro e w1 ⟨v', rfl, rdv, k1⟩
  obtain ⟨R, hR⟩ : ∃ R, cntF L = R := ⟨_, rfl⟩
  rw [hR] at rdv
  have HL := Lib.hid (show R.length ≤ 1000 from by rw [← hR]; have := cntF_len L; omega)
  have RI := Lib.hid (show Rise R from by rw [← hR]; exact (cntF_cnt L).rise)
  have HRR := Lib.hid hR; have K2 := Lib.hid k1; have RD1 := Lib.hid rdv
  obtain ⟨ao, cap, rfl, rdb⟩ := rdv
  obtain ⟨n, hn⟩ : ∃ n, R.length = n := ⟨_, rfl⟩
  have HN := Lib.hid hn
  have hnl : n ≤ 1000 := by rw [← hn]; exact HL.out
  rw [hn] at RD1 ⊢
  have RDB := Lib.hid rdb
  clear rdb hR hn k1
  go_wp2
  refine wp_gen (fun W => W.ownsRow w1.heap.size 28 2 (.slice (some ⟨w1.heap.size, 0, none⟩) 1 1) 1 [Value.slice none 0 0, Value.slice none 0 0] ∧ Kept (fun _ => False) w1 W ∧ W.heap.size = w1.heap.size + 1) ⟨tree_new w1, (Kept.refl _ w1).alloc _, Array.size_push _⟩ ?_
  rintro w2 ⟨to0, k2, sz2⟩
  obtain ⟨tb, htb⟩ : ∃ r, w1.heap.size = r := ⟨_, rfl⟩
  rw [htb] at to0 sz2 ⊢
  have TO0 := Lib.hid to0; have KB := Lib.hid k2
  obtain ⟨b0, hb0⟩ : ∃ b, w2.heap.size = b := ⟨_, rfl⟩
  have B2 := Lib.hid hb0
  have NUM := Lib.hid (show w.heap.size = rb ∧ rb < tb ∧ tb < b0 ∧ w1.heap.size = tb from by
    have h1 := HRB.out; have h2 := S1.out; have h4 := K2.out.size
    omega)
  have TB := Lib.hid NUM.out.2.2.1
  have RB0 := Lib.hid (own_keptS (own_keptS T1.out K2.out (fun _ _ f => f)) KB.out (fun _ _ f => f))
  clear to0 k2 sz2 htb hb0
  go_loopg [5] n (fun ghv s wr => ∃ (j : Nat) (rv ov : Value) (lr lo : List NR) (A : Nat → Prop), j + ghv = n ∧ s = .int .i64 j ∧ wr.ownsRow tb 28 2 (.slice (some ⟨tb, 0, none⟩) 1 1) 1 [rv, ov] ∧ Grown b0 A wr rv lr ∧ Grown b0 A wr ov lo ∧ (∀ k, rv.ownBlock = some k → ov.ownBlock ≠ some k) ∧ (∀ k, A k → k < wr.heap.size) ∧ lr.length ≤ j ∧ lo.length ≤ j ∧ frN lr = forF (subF R (R.length + 1)) R (rootsL R j) ∧ frN lo = forF (subF R (R.length + 1)) R (orphL R j) ∧ Kept (fun k => k = tb) w2 wr)
  case atStart => exact ⟨0, .slice none 0 0, .slice none 0 0, [], [], fun _ => False, by omega, by go_num, TO0.out, Grown.nil _ _ _, Grown.nil _ _ _, fun _ h => (by cases h), fun _ f => f.elim, Nat.le_refl _, Nat.le_refl _, rfl, rfl, Kept.refl _ _⟩
  case round =>
    obtain ⟨j, rv, ov, lr, lo, A, hg1, rfl, hto, hgr, hgo, hap, hA, hlr, hlo, hfr, hfo, hk⟩ := hrel
    have G1 := Lib.hid hg1; have TOr := Lib.hid hto; have GRRr := Lib.hid hgr; have GROr := Lib.hid hgo; have AP := Lib.hid hap; have HAr := Lib.hid hA; have LR := Lib.hid hlr; have LO := Lib.hid hlo; have FRR := Lib.hid hfr; have FRO := Lib.hid hfo; have KKr := Lib.hid hk
    clear hg1 hto hgr hgo hap hA hlr hlo hfr hfo hk
    by_cases hjn : j < n
    · have j0 : (j : Int) < (n : Int) := by omega
      have j1 : (0 : Int) ≤ (j : Int) := by omega
      have e1 : IntKind.i64.wrap ((j : Int) + 1) = ((j + 1 : Nat) : Int) := IntWalk.i64_in _ (by omega)
      have hjl : j < R.length := by rw [HN.out]; exact hjn
      have OLDr := Lib.hid (KB.out.trans KKr.out (fun _ _ f => f) (fun k h e => by have := NUM.out; omega) : Kept (fun _ => False) w1 wr)
      obtain ⟨g, o, rfl, hc⟩ : ∃ g o, ao = some ⟨g, o, none⟩ ∧ ∀ j u, (cellsS R)[j]? = some u → w1.cell? ⟨g, o + j, none⟩ = some u := by
        rcases RDB.out with h | h
        · subst h; simp at hjl
        · exact h
      obtain ⟨y, hy⟩ : ∃ y, nth R j = y := ⟨_, rfl⟩
      have gy := nth_get hjl
      rw [hy] at gy
      have PA := Lib.hid (ReadsS.at hc gy).2.2.1
      have HY := Lib.hid hy
      clear hy gy hc
      go_wp2_with fail
      refine (rhead_any wr _ R j (RD1.out.keptF OLDr.out) HL.out RI.out hjl).mono ?_
      rintro e W ⟨rfl, k4⟩
      have CPK := Lib.hid k4
      clear k4
      have TO := Lib.hid (own_keptS TOr.out CPK.out (fun _ _ f => f))
      have GRR := Lib.hid (GRRr.out.keep CPK.out (fun _ _ f => f.elim))
      have GRO := Lib.hid (GROr.out.keep CPK.out (fun _ _ f => f.elim))
      have HA := Lib.hid (show ∀ k, A k → k < W.heap.size from fun k h => by have h1 := HAr.out k h; have h2 := CPK.out.size; omega)
      have KK := Lib.hid (KKr.out.trans CPK.out (fun _ _ h => h) (fun _ _ f => f.elim) : Kept (fun k => k = tb) w2 W)
      have B0 := Lib.hid (show b0 ≤ W.heap.size from by have h1 := B2.out; have h2 := KK.out.size; omega)
      have OW := Lib.hid (keptFF OLDr.out CPK.out)
      have RDW := Lib.hid (RD1.out.keptF OW.out)
      cases hh : hdF R j with
      | true =>
        have HH := Lib.hid hh
        clear hh
        have SS := Lib.hid (show ∀ w', Kept (fun _ => False) W w' → w'.cell? ⟨tb, 1, none⟩ = some ov from fun w' k => k.cell (own_cellN TO.out (i := 1) rfl) (fun f => f))
        have hkvs : ∃ a' c', ov = .slice a' lo.length c' := by
          rcases row_form GRO.out.row with ⟨q1, q2⟩ | ⟨g', c', q1, _⟩
          · exact ⟨none, 0, by rw [q1, q2]⟩
          · exact ⟨_, _, q1⟩
        go_wp2
        refine wp_region_last 8 (fun w' => w'.cell? ⟨tb, 1, none⟩ = some ov) (by kernel_rfl) ?_
        have k0 := (Kept.refl (fun _ => False) W).drew
        have hHeld := SS.out _ k0
        simp only [List.size_toArray, List.length_cons, List.length_nil, Nat.zero_add, Nat.reduceAdd]
        refine wpAnyF_take (i := 0) (v := ?_) opAt0 (by kernel_rfl) (by kernel_rfl) (by kernel_rfl) (by kernel_rfl) (by decide) (fun _ _ _ h => h) (Or.inl ⟨by rfl, ?_⟩) hHeld ?_
        case refine_2 => (intro w hSw; (try dsimp only at hSw); go_simp; all_goals (with_reducible rfl))
        (try simp only [Act.put]); (try simp only [List.setIfInBounds_toArray]); (try simp only [List.set_cons_succ]); (try simp only [List.set_cons_zero])
        refine wpAnyF_take (i := 1) (v := ?_) opAt1 (by kernel_rfl) (by kernel_rfl) (by kernel_rfl) (by kernel_rfl) (by decide) (fun _ _ _ h => h) (Or.inl ⟨by rfl, ?_⟩) hHeld ?_
        case refine_2 => (intro w hSw; (try dsimp only at hSw); go_simp; all_goals (with_reducible rfl))
        (try simp only [Act.put]); (try simp only [List.setIfInBounds_toArray]); (try simp only [List.set_cons_succ]); (try simp only [List.set_cons_zero])
        refine wpAnyF_take (i := 2) (v := ?_) opAt2 (by kernel_rfl) (by kernel_rfl) (by kernel_rfl) (by kernel_rfl) (by decide) (fun _ _ _ h => h) (Or.inl ⟨by rfl, ?_⟩) hHeld ?_
        case refine_2 => (intro w hSw; (try dsimp only at hSw); go_simp; all_goals (with_reducible rfl))
        (try simp only [Act.put]); (try simp only [List.setIfInBounds_toArray]); (try simp only [List.set_cons_succ]); (try simp only [List.set_cons_zero])
        refine wpAnyF_take (i := 3) (v := ?_) opAt3 (by kernel_rfl) (by kernel_rfl) (by kernel_rfl) (by kernel_rfl) (by decide) (fun _ _ _ h => h) (Or.inl ⟨by rfl, ?_⟩) hHeld ?_
        case refine_2 => (intro w hSw; (try dsimp only at hSw); go_simp; all_goals (with_reducible rfl))
        (try simp only [Act.put]); (try simp only [List.setIfInBounds_toArray]); (try simp only [List.set_cons_succ]); (try simp only [List.set_cons_zero])
        refine next1 4 (by kernel_rfl) opAt4 fun K' hK => ?_
        go_simp
        go_at_call 27
        refine (rnode_any R HL.out RI.out (R.length + 1) _ _ j (low_all R hjl) hjl (RDW.out.keptF k0)).mono ?_
        rintro e w5 ⟨v5, rfl, rv5, k5⟩
        obtain ⟨a5, c5, ev, _⟩ := id rv5
        obtain ⟨n5, hn5⟩ : ∃ n, (subF R (R.length + 1) j).len = n := ⟨_, rfl⟩
        rw [hn5] at ev
        subst ev
        clear hn5
        rw [HY.out, nodeVal]
        have K5 := Lib.hid (keptFF k0 k5)
        have RV := Lib.hid rv5
        clear k5 rv5
        dsimp only
        have hHeld := SS.out _ K5.out
        refine hK _ _ ⟨fun _ => hHeld, ?_⟩
        clear hK K'
        (try simp only [Act.put]); (try simp only [List.setIfInBounds_toArray]); (try simp only [List.set_cons_succ]); (try simp only [List.set_cons_zero])
        refine next1 5 (by kernel_rfl) opAt5 fun K' hK => ?_
        go_simp
        have hHeld := SS.out (w5.alloc (.cells (y.cells ++ [Value.slice a5 n5 c5]).toArray 39)) (K5.out.alloc _)
        refine hK _ _ ⟨fun _ => hHeld, ?_⟩
        clear hK K'
        (try simp only [Act.put]); (try simp only [List.setIfInBounds_toArray]); (try simp only [List.set_cons_succ]); (try simp only [List.set_cons_zero])
        refine next1 6 (by kernel_rfl) opAt6 fun K' hK => ?_
        refine step_app (by rfl) _ _ 26 (by rfl) b0 39 i39 _ 9 112 Try.underlying26 hi39 z39 s39 b39 (by rfl) (by decide) ov lo.length _ (by rfl) ((own_keptS GRO.out.row K5.out (fun _ _ f => f)).alloc _) ⟨_, 0, none⟩ 1 1 (y.cells ++ [Value.slice a5 n5 c5]) (by rfl) (by rfl) ?_ ?_ ?_ ?_ ?_ ?_
        · exact World.news_of_block (heap_alloc_new _ _)
        · intro u hu; simp [Spn.cells] at hu; rcases hu with rfl | rfl | rfl | rfl | rfl | rfl | rfl | rfl | rfl <;> rfl
        · have := LO.out; unfold maxLen; omega
        · have := LO.out; omega
        · have h1 := B0.out; have h3 := K5.out.size; simp; omega
        intro ao' cap' w6 hown hgr hat
        have KV := Lib.hid (((Kept.refl (fun _ => False) w5).alloc _).trans (grown_kept hgr) (fun _ _ f => f.elim) (fun _ _ h => h) : Kept (fun k => ov.ownBlock = some k) w5 w6)
        have HAT := Lib.hid (show (Value.slice ao' (lo.length + 1) cap').ownBlock = ov.ownBlock ∨ ∃ b, (Value.slice ao' (lo.length + 1) cap').ownBlock = some b ∧ w5.heap.size ≤ b from hat.imp id (fun e => ⟨_, e, by simp⟩))
        have G2 := Lib.hid (GRO.out.push HA.out B0.out K5.out RV.out KV.out hown HAT.out)
        have GO2 := Lib.hid (GRR.out.beside (nv := .slice ao' (lo.length + 1) cap') K5.out KV.out (fun k hk => ⟨GRO.out.own k hk, fun e => AP.out k e hk⟩) HAT.out)
        have SZ := Lib.hid (show ∀ k, (A k ∨ (Value.slice ao' (lo.length + 1) cap').ownBlock = some k) → k < w6.heap.size from fun k hk => hk.elim (fun h => by have h1 := HA.out k h; have h2 := K5.out.size; have h3 := KV.out.size; omega) (fun h => (own_lt hown h).2))
        have AP2 := Lib.hid (show ∀ k, rv.ownBlock = some k → (Value.slice ao' (lo.length + 1) cap').ownBlock ≠ some k from fun k hk e => HAT.out.elim (fun h => AP.out k hk (h ▸ e)) (fun ⟨b', h, hb⟩ => by have h1 := own_lt GRR.out.row hk; have h2 := K5.out.size; rw [h] at e; cases e; omega))
        clear hown hgr hat
        have hHeld := (KV.out.cell (SS.out _ K5.out) (fun e => by have h1 := own_lt GRO.out.row e; have h2 := TB.out; simp only at h1; omega) : w6.cell? ⟨tb, 1, none⟩ = some ov)
        refine hK _ _ ⟨fun _ => hHeld, ?_⟩
        clear hK K'
        (try simp only [Act.put]); (try simp only [List.setIfInBounds_toArray]); (try simp only [List.set_cons_succ]); (try simp only [List.set_cons_zero])
        refine wpAnyF_take (i := 7) (v := ?_) opAt7 (by kernel_rfl) (by kernel_rfl) (by kernel_rfl) (by kernel_rfl) (by decide) (fun _ _ _ h => h) (Or.inl ⟨by rfl, ?_⟩) hHeld ?_
        case refine_2 => (intro w hSw; (try dsimp only at hSw); go_simp; all_goals (with_reducible rfl))
        (try simp only [Act.put]); (try simp only [List.setIfInBounds_toArray]); (try simp only [List.set_cons_succ]); (try simp only [List.set_cons_zero])
        refine next1 8 (by kernel_rfl) opAt8 fun K' hK => ?_
        have TO6 := Lib.hid (own_keptS (own_keptS TO.out K5.out (fun _ _ f => f)) KV.out (fun b hb e => by have h1 := own_lt GRO.out.row e; have h2 := TB.out; cases hb; simp only at h1; omega))
        refine step_store1 (by rfl) 26 _ _ (by rfl) tb 1 (.slice ao' (lo.length + 1) cap') (by rfl) (by rfl) (by rw [hHeld]; rfl) (TO6.out.frozenAt _) sz26 rfl rfl ?_
        intro W2 hW2
        have TO2 := Lib.hid (show W2.ownsRow tb 28 2 (.slice (some ⟨tb, 0, none⟩) 1 1) 1 [rv, .slice ao' (lo.length + 1) cap'] from by rw [hW2]; exact own_putN TO6.out 1 _)
        have KP := Lib.hid (show Kept (fun k => k = tb) w6 W2 from by rw [hW2]; exact kept_put w6 tb 1 _)
        have G3 := Lib.hid (G2.out.keep KP.out (fun k _ e => by have := TB.out; omega))
        have GO3 := Lib.hid (GO2.out.keep KP.out (fun k _ e => by have := TB.out; omega))
        have KK2 := Lib.hid (((KK.out.trans K5.out (fun _ _ h => h) (fun _ _ f => f.elim) : Kept (fun k => k = tb) w2 w5).trans KV.out (fun _ _ h => h) (fun k h1 h2 => by have h3 := own_lt GRO.out.row h2; have h4 := B2.out; omega) : Kept (fun k => k = tb) w2 w6).trans KP.out (fun _ _ h => h) (fun _ _ h => h) : Kept (fun k => k = tb) w2 W2)
        clear hW2
        refine hK _ _ ⟨fun h => absurd rfl h, ?_⟩
        clear hK K'
        (try simp only [Act.put]); (try simp only [List.setIfInBounds_toArray]); (try simp only [List.set_cons_succ]); (try simp only [List.set_cons_zero])
        refine wpAnyF_done (by kernel_rfl) ?_ _
        go_wp2
        go_roundg (n - (j + 1))
        case measure => have := G1.out; omega
        case rel => exact ⟨j + 1, rv, _, lr, _, _, by omega, by go_num, TO2.out, GO3.out, G3.out, AP2.out, fun k hk => by have h1 := SZ.out k hk; have h2 := KP.out.size; omega, by have := LR.out; omega, by have := LO.out; simp; omega, by rw [rootsL_skip (.inl HH.out)]; exact FRR.out, by rw [orphL_snoc HH.out, frN_app, FRO.out, forF_app]; simp only [frN, forF, HY.out], KK2.out⟩
      | false =>
        have HH := Lib.hid hh
        clear hh
        have d3 := OW.out.cell PA.out (fun f => f)
        by_cases pz : y.pa = 0
        · have pz1 : (y.pa == 0) = true := by simp [pz]
          have PZ := Lib.hid pz
          clear pz
          have SS := Lib.hid (show ∀ w', Kept (fun _ => False) W w' → w'.cell? ⟨tb, 0, none⟩ = some rv from fun w' k => k.cell (own_cellN TO.out (i := 0) rfl) (fun f => f))
          have hkvs : ∃ a' c', rv = .slice a' lr.length c' := by
            rcases row_form GRR.out.row with ⟨q1, q2⟩ | ⟨g', c', q1, _⟩
            · exact ⟨none, 0, by rw [q1, q2]⟩
            · exact ⟨_, _, q1⟩
          go_wp2
          refine wp_region_last 8 (fun w' => w'.cell? ⟨tb, 0, none⟩ = some rv) (by kernel_rfl) ?_
          have k0 := (Kept.refl (fun _ => False) W).drew
          have hHeld := SS.out _ k0
          simp only [List.size_toArray, List.length_cons, List.length_nil, Nat.zero_add, Nat.reduceAdd]
          refine wpAnyF_take (i := 0) (v := ?_) opAt0 (by kernel_rfl) (by kernel_rfl) (by kernel_rfl) (by kernel_rfl) (by decide) (fun _ _ _ h => h) (Or.inl ⟨by rfl, ?_⟩) hHeld ?_
          case refine_2 => (intro w hSw; (try dsimp only at hSw); go_simp; all_goals (with_reducible rfl))
          (try simp only [Act.put]); (try simp only [List.setIfInBounds_toArray]); (try simp only [List.set_cons_succ]); (try simp only [List.set_cons_zero])
          refine wpAnyF_take (i := 1) (v := ?_) opAt1 (by kernel_rfl) (by kernel_rfl) (by kernel_rfl) (by kernel_rfl) (by decide) (fun _ _ _ h => h) (Or.inl ⟨by rfl, ?_⟩) hHeld ?_
          case refine_2 => (intro w hSw; (try dsimp only at hSw); go_simp; all_goals (with_reducible rfl))
          (try simp only [Act.put]); (try simp only [List.setIfInBounds_toArray]); (try simp only [List.set_cons_succ]); (try simp only [List.set_cons_zero])
          refine wpAnyF_take (i := 2) (v := ?_) opAt2 (by kernel_rfl) (by kernel_rfl) (by kernel_rfl) (by kernel_rfl) (by decide) (fun _ _ _ h => h) (Or.inl ⟨by rfl, ?_⟩) hHeld ?_
          case refine_2 => (intro w hSw; (try dsimp only at hSw); go_simp; all_goals (with_reducible rfl))
          (try simp only [Act.put]); (try simp only [List.setIfInBounds_toArray]); (try simp only [List.set_cons_succ]); (try simp only [List.set_cons_zero])
          refine wpAnyF_take (i := 3) (v := ?_) opAt3 (by kernel_rfl) (by kernel_rfl) (by kernel_rfl) (by kernel_rfl) (by decide) (fun _ _ _ h => h) (Or.inl ⟨by rfl, ?_⟩) hHeld ?_
          case refine_2 => (intro w hSw; (try dsimp only at hSw); go_simp; all_goals (with_reducible rfl))
          (try simp only [Act.put]); (try simp only [List.setIfInBounds_toArray]); (try simp only [List.set_cons_succ]); (try simp only [List.set_cons_zero])
          refine next1 4 (by kernel_rfl) opAt4 fun K' hK => ?_
          go_simp
          go_at_call 27
          refine (rnode_any R HL.out RI.out (R.length + 1) _ _ j (low_all R hjl) hjl (RDW.out.keptF k0)).mono ?_
          rintro e w5 ⟨v5, rfl, rv5, k5⟩
          obtain ⟨a5, c5, ev, _⟩ := id rv5
          obtain ⟨n5, hn5⟩ : ∃ n, (subF R (R.length + 1) j).len = n := ⟨_, rfl⟩
          rw [hn5] at ev
          subst ev
          clear hn5
          rw [HY.out, nodeVal]
          have K5 := Lib.hid (keptFF k0 k5)
          have RV := Lib.hid rv5
          clear k5 rv5
          dsimp only
          have hHeld := SS.out _ K5.out
          refine hK _ _ ⟨fun _ => hHeld, ?_⟩
          clear hK K'
          (try simp only [Act.put]); (try simp only [List.setIfInBounds_toArray]); (try simp only [List.set_cons_succ]); (try simp only [List.set_cons_zero])
          refine next1 5 (by kernel_rfl) opAt5 fun K' hK => ?_
          go_simp
          have hHeld := SS.out (w5.alloc (.cells (y.cells ++ [Value.slice a5 n5 c5]).toArray 39)) (K5.out.alloc _)
          refine hK _ _ ⟨fun _ => hHeld, ?_⟩
          clear hK K'
          (try simp only [Act.put]); (try simp only [List.setIfInBounds_toArray]); (try simp only [List.set_cons_succ]); (try simp only [List.set_cons_zero])
          refine next1 6 (by kernel_rfl) opAt6 fun K' hK => ?_
          refine step_app (by rfl) _ _ 26 (by rfl) b0 39 i39 _ 9 112 Try.underlying26 hi39 z39 s39 b39 (by rfl) (by decide) rv lr.length _ (by rfl) ((own_keptS GRR.out.row K5.out (fun _ _ f => f)).alloc _) ⟨_, 0, none⟩ 1 1 (y.cells ++ [Value.slice a5 n5 c5]) (by rfl) (by rfl) ?_ ?_ ?_ ?_ ?_ ?_
          · exact World.news_of_block (heap_alloc_new _ _)
          · intro u hu; simp [Spn.cells] at hu; rcases hu with rfl | rfl | rfl | rfl | rfl | rfl | rfl | rfl | rfl <;> rfl
          · have := LR.out; unfold maxLen; omega
          · have := LR.out; omega
          · have h1 := B0.out; have h3 := K5.out.size; simp; omega
          intro ao' cap' w6 hown hgr hat
          have KV := Lib.hid (((Kept.refl (fun _ => False) w5).alloc _).trans (grown_kept hgr) (fun _ _ f => f.elim) (fun _ _ h => h) : Kept (fun k => rv.ownBlock = some k) w5 w6)
          have HAT := Lib.hid (show (Value.slice ao' (lr.length + 1) cap').ownBlock = rv.ownBlock ∨ ∃ b, (Value.slice ao' (lr.length + 1) cap').ownBlock = some b ∧ w5.heap.size ≤ b from hat.imp id (fun e => ⟨_, e, by simp⟩))
          have G2 := Lib.hid (GRR.out.push HA.out B0.out K5.out RV.out KV.out hown HAT.out)
          have GO2 := Lib.hid (GRO.out.beside (nv := .slice ao' (lr.length + 1) cap') K5.out KV.out (fun k hk => ⟨GRR.out.own k hk, fun e => AP.out k hk e⟩) HAT.out)
          have SZ := Lib.hid (show ∀ k, (A k ∨ (Value.slice ao' (lr.length + 1) cap').ownBlock = some k) → k < w6.heap.size from fun k hk => hk.elim (fun h => by have h1 := HA.out k h; have h2 := K5.out.size; have h3 := KV.out.size; omega) (fun h => (own_lt hown h).2))
          have AP2 := Lib.hid (show ∀ k, ov.ownBlock = some k → (Value.slice ao' (lr.length + 1) cap').ownBlock ≠ some k from fun k hk e => HAT.out.elim (fun h => AP.out k (h ▸ e) hk) (fun ⟨b', h, hb⟩ => by have h1 := own_lt GRO.out.row hk; have h2 := K5.out.size; rw [h] at e; cases e; omega))
          clear hown hgr hat
          have hHeld := (KV.out.cell (SS.out _ K5.out) (fun e => by have h1 := own_lt GRR.out.row e; have h2 := TB.out; simp only at h1; omega) : w6.cell? ⟨tb, 0, none⟩ = some rv)
          refine hK _ _ ⟨fun _ => hHeld, ?_⟩
          clear hK K'
          (try simp only [Act.put]); (try simp only [List.setIfInBounds_toArray]); (try simp only [List.set_cons_succ]); (try simp only [List.set_cons_zero])
          refine wpAnyF_take (i := 7) (v := ?_) opAt7 (by kernel_rfl) (by kernel_rfl) (by kernel_rfl) (by kernel_rfl) (by decide) (fun _ _ _ h => h) (Or.inl ⟨by rfl, ?_⟩) hHeld ?_
          case refine_2 => (intro w hSw; (try dsimp only at hSw); go_simp; all_goals (with_reducible rfl))
          (try simp only [Act.put]); (try simp only [List.setIfInBounds_toArray]); (try simp only [List.set_cons_succ]); (try simp only [List.set_cons_zero])
          refine next1 8 (by kernel_rfl) opAt8 fun K' hK => ?_
          have TO6 := Lib.hid (own_keptS (own_keptS TO.out K5.out (fun _ _ f => f)) KV.out (fun b hb e => by have h1 := own_lt GRR.out.row e; have h2 := TB.out; cases hb; simp only at h1; omega))
          refine step_store1 (by rfl) 26 _ _ (by rfl) tb 0 (.slice ao' (lr.length + 1) cap') (by rfl) (by rfl) (by rw [hHeld]; rfl) (TO6.out.frozenAt _) sz26 rfl rfl ?_
          intro W2 hW2
          have TO2 := Lib.hid (show W2.ownsRow tb 28 2 (.slice (some ⟨tb, 0, none⟩) 1 1) 1 [.slice ao' (lr.length + 1) cap', ov] from by rw [hW2]; exact own_putN TO6.out 0 _)
          have KP := Lib.hid (show Kept (fun k => k = tb) w6 W2 from by rw [hW2]; exact kept_put w6 tb 0 _)
          have G3 := Lib.hid (G2.out.keep KP.out (fun k _ e => by have := TB.out; omega))
          have GO3 := Lib.hid (GO2.out.keep KP.out (fun k _ e => by have := TB.out; omega))
          have KK2 := Lib.hid (((KK.out.trans K5.out (fun _ _ h => h) (fun _ _ f => f.elim) : Kept (fun k => k = tb) w2 w5).trans KV.out (fun _ _ h => h) (fun k h1 h2 => by have h3 := own_lt GRR.out.row h2; have h4 := B2.out; omega) : Kept (fun k => k = tb) w2 w6).trans KP.out (fun _ _ h => h) (fun _ _ h => h) : Kept (fun k => k = tb) w2 W2)
          clear hW2
          refine hK _ _ ⟨fun h => absurd rfl h, ?_⟩
          clear hK K'
          (try simp only [Act.put]); (try simp only [List.setIfInBounds_toArray]); (try simp only [List.set_cons_succ]); (try simp only [List.set_cons_zero])
          refine wpAnyF_done (by kernel_rfl) ?_ _
          go_wp2
          go_roundg (n - (j + 1))
          case measure => have := G1.out; omega
          case rel => exact ⟨j + 1, _, ov, _, lo, _, by omega, by go_num, TO2.out, G3.out, GO3.out, fun k h1 h2 => AP2.out k h2 h1, fun k hk => by have h1 := SZ.out k hk; have h2 := KP.out.size; omega, by have := LR.out; simp; omega, by have := LO.out; omega, by rw [rootsL_snoc HH.out (by rw [HY.out]; exact PZ.out), frN_app, FRR.out, forF_app]; simp only [frN, forF, HY.out], by rw [orphL_skip HH.out]; exact FRO.out, KK2.out⟩
        · have pz1 : (y.pa == 0) = false := by simp [pz]
          have PZ := Lib.hid pz
          clear pz
          go_wp2
          go_roundg (n - (j + 1))
          case measure => have := G1.out; omega
          case rel => exact ⟨j + 1, rv, ov, lr, lo, A, by omega, by go_num, TO.out, GRR.out, GRO.out, AP.out, HA.out, by have := LR.out; omega, by have := LO.out; omega, by rw [rootsL_skip (.inr (by rw [HY.out]; exact PZ.out))]; exact FRR.out, by rw [orphL_skip HH.out]; exact FRO.out, KK.out⟩
    · have j0 : ¬ (j : Int) < (n : Int) := by omega
      have E1 := Lib.hid (show j = n from by have := G1.out; omega)
      obtain ⟨ra, rn, rc, hrv⟩ : ∃ a n c, rv = .slice a n c := by
        rcases row_form GRRr.out.row with ⟨q1, q2⟩ | ⟨g', c', q1, _⟩
        · exact ⟨_, _, _, q1⟩
        · exact ⟨_, _, _, q1⟩
      obtain ⟨oa, on, oc, hov⟩ : ∃ a n c, ov = .slice a n c := by
        rcases row_form GROr.out.row with ⟨q1, q2⟩ | ⟨g', c', q1, _⟩
        · exact ⟨_, _, _, q1⟩
        · exact ⟨_, _, _, q1⟩
      subst hrv hov
      have RBr := Lib.hid (own_keptS RB0.out KKr.out (fun b hb e => by cases hb; have := NUM.out; simp only at e; omega))
      have x0 := own_cellN TOr.out (i := 0) rfl
      have x1 := own_cellN TOr.out (i := 1) rfl
      have y0 := own_cellN RBr.out (i := 0) rfl
      have y1 := own_cellN RBr.out (i := 1) rfl
      have f0 := RBr.out.frozenAt 0
      have f1 := RBr.out.frozenAt 1
      go_wp2
      obtain ⟨W2, hW2⟩ : ∃ W, (wr.setCell ⟨rb, 0, none⟩ (Value.slice ra rn rc)).setCell ⟨rb, 1, none⟩ (Value.slice oa on oc) = W := ⟨_, rfl⟩
      have RB2 := Lib.hid (show W2.ownsRow rb 28 2 (.slice (some ⟨rb, 0, none⟩) 1 1) 1 [Value.slice ra rn rc, Value.slice oa on oc] from by rw [← hW2]; exact own_putN (own_putN RBr.out 0 _) 1 _)
      have KP := Lib.hid (show Kept (fun k => k = rb) wr W2 from by rw [← hW2]; exact Kept.setCells (S := fun k => k = rb) (fun _ => rfl) [Value.slice ra rn rc, Value.slice oa on oc] 0 (Kept.refl _ wr))
      rw [hW2]
      clear hW2 x0 x1 y0 y1 f0 f1
      have r0 := own_cellN RB2.out (i := 0) rfl
      have r1 := own_cellN RB2.out (i := 1) rfl
      refine bodyPost_ret (v := .agg #[Value.slice ra rn rc, Value.slice oa on oc]) (by simp [results, Try.results11, go_sem, r0, r1]; try rfl) rfl ?_
      have KF := Lib.hid ((((K1.out.trans K2.out (fun _ _ f => f) (fun _ _ f => f) : Kept (fun _ => False) w w1).trans KB.out (fun _ _ f => f) (fun _ _ f => f) : Kept (fun _ => False) w w2).trans KKr.out (fun _ _ f => f) (fun k h e => by have := NUM.out; omega) : Kept (fun _ => False) w wr).trans KP.out (fun _ _ f => f) (fun k h e => by have := NUM.out; omega) : Kept (fun _ => False) w W2)
      rw [HRR.out]
      refine ⟨_, _, rfl, ?_, ?_, KF.out⟩
      · have hf : frN lr = rootsF R := by rw [FRR.out, rootsF, HN.out, E1.out]
        rw [← hf]
        exact GRRr.out.reads.keptS KP.out (fun k _ hs e => by have := NUM.out; omega) (fun k _ hs => by have := NUM.out; omega)
      · have hf : frN lo = orphF R := by rw [FRO.out, orphF, HN.out, E1.out]
        rw [← hf]
        exact GROr.out.reads.keptS KP.out (fun k _ hs e => by have := NUM.out; omega) (fun k _ hs => by have := NUM.out; omega)
end Go.Proofs.Ytjidldbolbjdpaa
