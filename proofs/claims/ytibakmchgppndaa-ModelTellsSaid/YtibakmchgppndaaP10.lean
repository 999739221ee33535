/- TRof, Get, TreeM, Traces, Comp, FindA, FindB, PageP, PageA, IntsS, ScanR -/
import Derived.Test.YtibakmchgppndaaP9
import Derived.Laws.OwnMore
/- spoorref14.Of. -/
namespace Go.Proofs.Ytibakmchgppndaa
open Go.RowKit

set_option maxHeartbeats 8000000 in
set_option maxRecDepth 100000 in
theorem rof_any (w : World) (v : Value) (L : List Spn) (h : ReadsS w v L) (hl : L.length ≤ 1000) :
  Calls Try.prog 45 #[v] w fun e w' => ∃ rv ov, e = .returned (.agg #[rv, ov]) ∧ ReadsF (fun k => w.heap.size ≤ k) w' rv (rootsF (cntF L)) ∧ ReadsF (fun k => w.heap.size ≤ k) w' ov (orphF (cntF L)) ∧ Kept (fun _ => False) w w' := by
 obtain ⟨rb, hrb⟩ : ∃ n, w.heap.size = n := ⟨_, rfl⟩
 obtain ⟨W1, hW1⟩ : ∃ W, w.alloc (.cells #[.slice none 0 0, .slice none 0 0] 60) = W := ⟨_, rfl⟩
 have K1 := Lib.hid (show Kept (fun _ => False) w W1 by rw [← hW1]; exact (Kept.refl _ w).alloc _)
 have T1 := Lib.hid (show W1.ownsRow rb 60 2 (.slice (some ⟨rb, 0, none⟩) 1 1) 1 [.slice none 0 0, .slice none 0 0] by rw [← hW1, ← hrb]; exact tree_new w)
 have S1 := Lib.hid (show W1.heap.size = rb + 1 by rw [← hW1, ← hrb]; exact Array.size_push _)
 have HRB := Lib.hid hrb
 have HV := Lib.hid h
 clear h
 obtain ⟨i39, hi39, z39, s39, b39⟩ := info_parts inf39
 go_enter Try.func45, Try.ntmps45
 go_wp2_with fail
 clear hW1 hrb
 refine (counted_any W1 v L (HV.out.keptF K1.out) hl).mono ?_
 rintro e w1 ⟨v', rfl, rdv, k1⟩
 obtain ⟨R, hR⟩ : ∃ R, cntF L = R := ⟨_, rfl⟩
 rw [hR] at rdv
 have HL := Lib.hid (show R.length ≤ 1000 from by rw [← hR]; have := cntF_len L; omega)
 have RI := Lib.hid (show Rise R from by rw [← hR]; exact (cntF_cnt L).rise)
 have HRR := Lib.hid hR; have K2 := Lib.hid k1; have RD1 := Lib.hid rdv
 obtain ⟨ao, cap, rfl, rdb⟩ := rdv
 obtain ⟨n, hn⟩ : ∃ n, R.length = n := ⟨_, rfl⟩
 have HN := Lib.hid hn
 have hnl : n ≤ 1000 := by rw [← hn]; exact HL.out
 rw [hn] at RD1 ⊢
 have RDB := Lib.hid rdb
 clear rdb hR hn k1
 go_wp2
 refine wp_gen (fun W => W.ownsRow w1.heap.size 60 2 (.slice (some ⟨w1.heap.size, 0, none⟩) 1 1) 1 [Value.slice none 0 0, Value.slice none 0 0] ∧ Kept (fun _ => False) w1 W ∧ W.heap.size = w1.heap.size + 1) ⟨tree_new w1, (Kept.refl _ w1).alloc _, Array.size_push _⟩ ?_
 rintro w2 ⟨to0, k2, sz2⟩
 obtain ⟨tb, htb⟩ : ∃ r, w1.heap.size = r := ⟨_, rfl⟩
 rw [htb] at to0 sz2 ⊢
 have TO0 := Lib.hid to0; have KB := Lib.hid k2
 obtain ⟨b0, hb0⟩ : ∃ b, w2.heap.size = b := ⟨_, rfl⟩
 have B2 := Lib.hid hb0
 have NUM := Lib.hid (show w.heap.size = rb ∧ rb < tb ∧ tb < b0 ∧ w1.heap.size = tb from by
  have h1 := HRB.out; have h2 := S1.out; have h4 := K2.out.size
  omega)
 have TB := Lib.hid NUM.out.2.2.1
 have RB0 := Lib.hid (own_keptS (own_keptS T1.out K2.out (fun _ _ f => f)) KB.out (fun _ _ f => f))
 clear to0 k2 sz2 htb hb0
 go_loopg [5] n (fun ghv s wr => ∃ (j : Nat) (rv ov : Value) (lr lo : List NR) (A : Nat → Prop), j + ghv = n ∧ s = .int .i64 j ∧ wr.ownsRow tb 60 2 (.slice (some ⟨tb, 0, none⟩) 1 1) 1 [rv, ov] ∧ Grown b0 A wr rv lr ∧ Grown b0 A wr ov lo ∧ (∀ k, rv.ownBlock = some k → ov.ownBlock ≠ some k) ∧ (∀ k, A k → k < wr.heap.size) ∧ lr.length ≤ j ∧ lo.length ≤ j ∧ frN lr = forF (subF R (R.length + 1)) R (rootsL R j) ∧ frN lo = forF (subF R (R.length + 1)) R (orphL R j) ∧ Kept (fun k => k = tb) w2 wr)
 case atStart => exact ⟨0, .slice none 0 0, .slice none 0 0, [], [], fun _ => False, by omega, by go_num, TO0.out, Grown.nil _ _ _, Grown.nil _ _ _, fun _ h => (by cases h), fun _ f => f.elim, Nat.le_refl _, Nat.le_refl _, rfl, rfl, Kept.refl _ _⟩
 case round =>
  obtain ⟨j, rv, ov, lr, lo, A, hg1, rfl, hto, hgr, hgo, hap, hA, hlr, hlo, hfr, hfo, hk⟩ := hrel
  have G1 := Lib.hid hg1; have TOr := Lib.hid hto; have GRRr := Lib.hid hgr; have GROr := Lib.hid hgo; have AP := Lib.hid hap; have HAr := Lib.hid hA; have LR := Lib.hid hlr; have LO := Lib.hid hlo; have FRR := Lib.hid hfr; have FRO := Lib.hid hfo; have KKr := Lib.hid hk
  clear hg1 hto hgr hgo hap hA hlr hlo hfr hfo hk
  by_cases hjn : j < n
  ·have j0 : (j : Int) < (n : Int) := by omega
   have j1 : (0 : Int) ≤ (j : Int) := by omega
   have e1 : IntKind.i64.wrap ((j : Int) + 1) = ((j + 1 : Nat) : Int) := IntWalk.i64_in _ (by omega)
   have hjl : j < R.length := by rw [HN.out]; exact hjn
   have OLDr := Lib.hid (KB.out.trans KKr.out (fun _ _ f => f) (fun k h e => by have := NUM.out; omega) : Kept (fun _ => False) w1 wr)
   obtain ⟨g, o, rfl, hc⟩ : ∃ g o, ao = some ⟨g, o, none⟩ ∧ ∀ j u, (cellsS R)[j]? = some u → w1.cell? ⟨g, o + j, none⟩ = some u := by
    rcases RDB.out with h | h
    ·subst h; simp at hjl
    ·exact h
   obtain ⟨y, hy⟩ : ∃ y, nth R j = y := ⟨_, rfl⟩
   have gy := nth_get hjl
   rw [hy] at gy
   have PA := Lib.hid (ReadsS.at hc gy).2.2.1
   have HY := Lib.hid hy
   clear hy gy hc
   go_wp2_with fail
   refine (rhead_any wr _ R j (RD1.out.keptF OLDr.out) HL.out RI.out hjl).mono ?_
   rintro e W ⟨rfl, k4⟩
   have CPK := Lib.hid k4
   clear k4
   have TO := Lib.hid (own_keptS TOr.out CPK.out (fun _ _ f => f))
   have GRR := Lib.hid (GRRr.out.keep CPK.out (fun _ _ f => f.elim))
   have GRO := Lib.hid (GROr.out.keep CPK.out (fun _ _ f => f.elim))
   have HA := Lib.hid (show ∀ k, A k → k < W.heap.size from fun k h => by have h1 := HAr.out k h; have h2 := CPK.out.size; omega)
   have KK := Lib.hid (KKr.out.trans CPK.out (fun _ _ h => h) (fun _ _ f => f.elim) : Kept (fun k => k = tb) w2 W)
   have B0 := Lib.hid (show b0 ≤ W.heap.size from by have h1 := B2.out; have h2 := KK.out.size; omega)
   have OW := Lib.hid (keptFF OLDr.out CPK.out)
   have RDW := Lib.hid (RD1.out.keptF OW.out)
   cases hh : hdF R j with
   | true =>
    have HH := Lib.hid hh
    clear hh
    have SS := Lib.hid (show ∀ w', Kept (fun _ => False) W w' → w'.cell? ⟨tb, 1, none⟩ = some ov from fun w' k => k.cell (own_cellN TO.out (i := 1) rfl) (fun f => f))
    have hkvs : ∃ a' c', ov = .slice a' lo.length c' := by
     rcases row_form GRO.out.row with ⟨q1, q2⟩ | ⟨g', c', q1, _⟩
     ·exact ⟨none, 0, by rw [q1, q2]⟩
     ·exact ⟨_, _, q1⟩
    go_wp2
    refine wp_region_last 8 (fun w' => w'.cell? ⟨tb, 1, none⟩ = some ov) (by kernel_rfl) ?_
    have k0 := (Kept.refl (fun _ => False) W).drew
    have hHeld := SS.out _ k0
    simp only [List.size_toArray, List.length_cons, List.length_nil, Nat.zero_add, Nat.reduceAdd]
    refine tF (v := ?_) 0 opAt0 ?_ hHeld ?_
    case refine_2 => (intro w hSw; (try dsimp only at hSw); go_simp; all_goals (with_reducible rfl))
    (try simp only [Act.put]); try simp only [z2, List.set]
    refine tF (v := ?_) 1 opAt1 ?_ hHeld ?_
    case refine_2 => (intro w hSw; (try dsimp only at hSw); go_simp; all_goals (with_reducible rfl))
    (try simp only [Act.put]); try simp only [z2, List.set]
    refine tF (v := ?_) 2 opAt2 ?_ hHeld ?_
    case refine_2 => (intro w hSw; (try dsimp only at hSw); go_simp; all_goals (with_reducible rfl))
    (try simp only [Act.put]); try simp only [z2, List.set]
    refine tF (v := ?_) 3 opAt3 ?_ hHeld ?_
    case refine_2 => (intro w hSw; (try dsimp only at hSw); go_simp; all_goals (with_reducible rfl))
    (try simp only [Act.put]); try simp only [z2, List.set]
    refine next1 4 (by kernel_rfl) opAt4 fun K' hK => ?_
    go_simp
    go_at_call 59
    refine (rnode_any R HL.out RI.out (R.length + 1) _ _ j (low_all R hjl) hjl (RDW.out.keptF k0)).mono ?_
    rintro e w5 ⟨v5, rfl, rv5, k5⟩
    obtain ⟨a5, c5, ev, _⟩ := id rv5
    obtain ⟨n5, hn5⟩ : ∃ n, (subF R (R.length + 1) j).len = n := ⟨_, rfl⟩
    rw [hn5] at ev
    subst ev
    clear hn5
    rw [HY.out, nodeVal]
    have K5 := Lib.hid (keptFF k0 k5)
    have RV := Lib.hid rv5
    clear k5 rv5
    dsimp only
    have hHeld := SS.out _ K5.out
    refine hK _ _ ⟨fun _ => hHeld, ?_⟩
    clear hK K'
    (try simp only [Act.put]); try simp only [z2, List.set]
    refine next1 5 (by kernel_rfl) opAt5 fun K' hK => ?_
    go_simp
    have hHeld := SS.out (w5.alloc (.cells (y.cells ++ [Value.slice a5 n5 c5]).toArray 93)) (K5.out.alloc _)
    refine hK _ _ ⟨fun _ => hHeld, ?_⟩
    clear hK K'
    (try simp only [Act.put]); try simp only [z2, List.set]
    refine next1 6 (by kernel_rfl) opAt6 fun K' hK => ?_
    refine step_app (by rfl) _ _ 58 (by rfl) b0 93 i39 _ 9 112 Try.underlying58 hi39 z39 s39 b39 (by rfl) (by decide) ov lo.length _ (by rfl) ((own_keptS GRO.out.row K5.out (fun _ _ f => f)).alloc _) ⟨_, 0, none⟩ 1 1 (y.cells ++ [Value.slice a5 n5 c5]) (by rfl) (by rfl) ?_ ?_ ?_ ?_ ?_ ?_
    ·exact World.news_of_block (heap_alloc_new _ _)
    ·intro u hu; simp [Spn.cells] at hu; rcases hu with rfl | rfl | rfl | rfl | rfl | rfl | rfl | rfl | rfl <;> rfl
    ·have := LO.out; unfold maxLen; omega
    ·have := LO.out; omega
    ·have h1 := B0.out; have h3 := K5.out.size; simp; omega
    intro ao' cap' w6 hown hgr hat
    have KV := Lib.hid (((Kept.refl (fun _ => False) w5).alloc _).trans (grown_kept hgr) (fun _ _ f => f.elim) (fun _ _ h => h) : Kept (fun k => ov.ownBlock = some k) w5 w6)
    have HAT := Lib.hid (show (Value.slice ao' (lo.length + 1) cap').ownBlock = ov.ownBlock ∨ ∃ b, (Value.slice ao' (lo.length + 1) cap').ownBlock = some b ∧ w5.heap.size ≤ b from hat.imp id (fun e => ⟨_, e, by simp⟩))
    have G2 := Lib.hid (GRO.out.push HA.out B0.out K5.out RV.out KV.out hown HAT.out)
    have GO2 := Lib.hid (GRR.out.beside (nv := .slice ao' (lo.length + 1) cap') K5.out KV.out (fun k hk => ⟨GRO.out.own k hk, fun e => AP.out k e hk⟩) HAT.out)
    have SZ := Lib.hid (show ∀ k, (A k ∨ (Value.slice ao' (lo.length + 1) cap').ownBlock = some k) → k < w6.heap.size from fun k hk => hk.elim (fun h => by have h1 := HA.out k h; have h2 := K5.out.size; have h3 := KV.out.size; omega) (fun h => (own_lt hown h).2))
    have AP2 := Lib.hid (show ∀ k, rv.ownBlock = some k → (Value.slice ao' (lo.length + 1) cap').ownBlock ≠ some k from fun k hk e => HAT.out.elim (fun h => AP.out k hk (h ▸ e)) (fun ⟨b', h, hb⟩ => by have h1 := own_lt GRR.out.row hk; have h2 := K5.out.size; rw [h] at e; cases e; omega))
    clear hown hgr hat
    have hHeld := (KV.out.cell (SS.out _ K5.out) (fun e => by have h1 := own_lt GRO.out.row e; have h2 := TB.out; simp only at h1; omega) : w6.cell? ⟨tb, 1, none⟩ = some ov)
    refine hK _ _ ⟨fun _ => hHeld, ?_⟩
    clear hK K'
    (try simp only [Act.put]); try simp only [z2, List.set]
    refine tF (v := ?_) 7 opAt7 ?_ hHeld ?_
    case refine_2 => (intro w hSw; (try dsimp only at hSw); go_simp; all_goals (with_reducible rfl))
    (try simp only [Act.put]); try simp only [z2, List.set]
    refine next1 8 (by kernel_rfl) opAt8 fun K' hK => ?_
    have TO6 := Lib.hid (own_keptS (own_keptS TO.out K5.out (fun _ _ f => f)) KV.out (fun b hb e => by have h1 := own_lt GRO.out.row e; have h2 := TB.out; cases hb; simp only at h1; omega))
    refine step_store1 (by rfl) 58 _ _ (by rfl) tb 1 (.slice ao' (lo.length + 1) cap') (by rfl) (by rfl) (by rw [hHeld]; rfl) (TO6.out.frozenAt _) sz26 rfl rfl ?_
    intro W2 hW2
    have TO2 := Lib.hid (show W2.ownsRow tb 60 2 (.slice (some ⟨tb, 0, none⟩) 1 1) 1 [rv, .slice ao' (lo.length + 1) cap'] from by rw [hW2]; exact own_putN TO6.out 1 _)
    have KP := Lib.hid (show Kept (fun k => k = tb) w6 W2 from by rw [hW2]; exact kept_put w6 tb 1 _)
    have G3 := Lib.hid (G2.out.keep KP.out (fun k _ e => by have := TB.out; omega))
    have GO3 := Lib.hid (GO2.out.keep KP.out (fun k _ e => by have := TB.out; omega))
    have KK2 := Lib.hid (((KK.out.trans K5.out (fun _ _ h => h) (fun _ _ f => f.elim) : Kept (fun k => k = tb) w2 w5).trans KV.out (fun _ _ h => h) (fun k h1 h2 => by have h3 := own_lt GRO.out.row h2; have h4 := B2.out; omega) : Kept (fun k => k = tb) w2 w6).trans KP.out (fun _ _ h => h) (fun _ _ h => h) : Kept (fun k => k = tb) w2 W2)
    clear hW2
    refine hK _ _ ⟨fun h => absurd rfl h, ?_⟩
    clear hK K'
    (try simp only [Act.put]); try simp only [z2, List.set]
    refine wpAnyF_done (by kernel_rfl) ?_ _
    go_wp2
    go_roundg (n - (j + 1))
    case measure => have := G1.out; omega
    case rel => exact ⟨j + 1, rv, _, lr, _, _, by omega, by go_num, TO2.out, GO3.out, G3.out, AP2.out, fun k hk => by have h1 := SZ.out k hk; have h2 := KP.out.size; omega, by have := LR.out; omega, by have := LO.out; simp; omega, by rw [rootsL_skip (.inl HH.out)]; exact FRR.out, by rw [orphL_snoc HH.out, frN_app, FRO.out, forF_app]; simp only [frN, forF, HY.out], KK2.out⟩
   | false =>
    have HH := Lib.hid hh
    clear hh
    have d3 := OW.out.cell PA.out (fun f => f)
    by_cases pz : y.pa = 0
    ·have pz1 : (y.pa == 0) = true := by simp [pz]
     have PZ := Lib.hid pz
     clear pz
     have SS := Lib.hid (show ∀ w', Kept (fun _ => False) W w' → w'.cell? ⟨tb, 0, none⟩ = some rv from fun w' k => k.cell (own_cellN TO.out (i := 0) rfl) (fun f => f))
     have hkvs : ∃ a' c', rv = .slice a' lr.length c' := by
      rcases row_form GRR.out.row with ⟨q1, q2⟩ | ⟨g', c', q1, _⟩
      ·exact ⟨none, 0, by rw [q1, q2]⟩
      ·exact ⟨_, _, q1⟩
     go_wp2
     refine wp_region_last 8 (fun w' => w'.cell? ⟨tb, 0, none⟩ = some rv) (by kernel_rfl) ?_
     have k0 := (Kept.refl (fun _ => False) W).drew
     have hHeld := SS.out _ k0
     simp only [List.size_toArray, List.length_cons, List.length_nil, Nat.zero_add, Nat.reduceAdd]
     refine tF (v := ?_) 0 opAt0 ?_ hHeld ?_
     case refine_2 => (intro w hSw; (try dsimp only at hSw); go_simp; all_goals (with_reducible rfl))
     (try simp only [Act.put]); try simp only [z2, List.set]
     refine tF (v := ?_) 1 opAt1 ?_ hHeld ?_
     case refine_2 => (intro w hSw; (try dsimp only at hSw); go_simp; all_goals (with_reducible rfl))
     (try simp only [Act.put]); try simp only [z2, List.set]
     refine tF (v := ?_) 2 opAt2 ?_ hHeld ?_
     case refine_2 => (intro w hSw; (try dsimp only at hSw); go_simp; all_goals (with_reducible rfl))
     (try simp only [Act.put]); try simp only [z2, List.set]
     refine tF (v := ?_) 3 opAt3 ?_ hHeld ?_
     case refine_2 => (intro w hSw; (try dsimp only at hSw); go_simp; all_goals (with_reducible rfl))
     (try simp only [Act.put]); try simp only [z2, List.set]
     refine next1 4 (by kernel_rfl) opAt4 fun K' hK => ?_
     go_simp
     go_at_call 59
     refine (rnode_any R HL.out RI.out (R.length + 1) _ _ j (low_all R hjl) hjl (RDW.out.keptF k0)).mono ?_
     rintro e w5 ⟨v5, rfl, rv5, k5⟩
     obtain ⟨a5, c5, ev, _⟩ := id rv5
     obtain ⟨n5, hn5⟩ : ∃ n, (subF R (R.length + 1) j).len = n := ⟨_, rfl⟩
     rw [hn5] at ev
     subst ev
     clear hn5
     rw [HY.out, nodeVal]
     have K5 := Lib.hid (keptFF k0 k5)
     have RV := Lib.hid rv5
     clear k5 rv5
     dsimp only
     have hHeld := SS.out _ K5.out
     refine hK _ _ ⟨fun _ => hHeld, ?_⟩
     clear hK K'
     (try simp only [Act.put]); try simp only [z2, List.set]
     refine next1 5 (by kernel_rfl) opAt5 fun K' hK => ?_
     go_simp
     have hHeld := SS.out (w5.alloc (.cells (y.cells ++ [Value.slice a5 n5 c5]).toArray 93)) (K5.out.alloc _)
     refine hK _ _ ⟨fun _ => hHeld, ?_⟩
     clear hK K'
     (try simp only [Act.put]); try simp only [z2, List.set]
     refine next1 6 (by kernel_rfl) opAt6 fun K' hK => ?_
     refine step_app (by rfl) _ _ 58 (by rfl) b0 93 i39 _ 9 112 Try.underlying58 hi39 z39 s39 b39 (by rfl) (by decide) rv lr.length _ (by rfl) ((own_keptS GRR.out.row K5.out (fun _ _ f => f)).alloc _) ⟨_, 0, none⟩ 1 1 (y.cells ++ [Value.slice a5 n5 c5]) (by rfl) (by rfl) ?_ ?_ ?_ ?_ ?_ ?_
     ·exact World.news_of_block (heap_alloc_new _ _)
     ·intro u hu; simp [Spn.cells] at hu; rcases hu with rfl | rfl | rfl | rfl | rfl | rfl | rfl | rfl | rfl <;> rfl
     ·have := LR.out; unfold maxLen; omega
     ·have := LR.out; omega
     ·have h1 := B0.out; have h3 := K5.out.size; simp; omega
     intro ao' cap' w6 hown hgr hat
     have KV := Lib.hid (((Kept.refl (fun _ => False) w5).alloc _).trans (grown_kept hgr) (fun _ _ f => f.elim) (fun _ _ h => h) : Kept (fun k => rv.ownBlock = some k) w5 w6)
     have HAT := Lib.hid (show (Value.slice ao' (lr.length + 1) cap').ownBlock = rv.ownBlock ∨ ∃ b, (Value.slice ao' (lr.length + 1) cap').ownBlock = some b ∧ w5.heap.size ≤ b from hat.imp id (fun e => ⟨_, e, by simp⟩))
     have G2 := Lib.hid (GRR.out.push HA.out B0.out K5.out RV.out KV.out hown HAT.out)
     have GO2 := Lib.hid (GRO.out.beside (nv := .slice ao' (lr.length + 1) cap') K5.out KV.out (fun k hk => ⟨GRR.out.own k hk, fun e => AP.out k hk e⟩) HAT.out)
     have SZ := Lib.hid (show ∀ k, (A k ∨ (Value.slice ao' (lr.length + 1) cap').ownBlock = some k) → k < w6.heap.size from fun k hk => hk.elim (fun h => by have h1 := HA.out k h; have h2 := K5.out.size; have h3 := KV.out.size; omega) (fun h => (own_lt hown h).2))
     have AP2 := Lib.hid (show ∀ k, ov.ownBlock = some k → (Value.slice ao' (lr.length + 1) cap').ownBlock ≠ some k from fun k hk e => HAT.out.elim (fun h => AP.out k (h ▸ e) hk) (fun ⟨b', h, hb⟩ => by have h1 := own_lt GRO.out.row hk; have h2 := K5.out.size; rw [h] at e; cases e; omega))
     clear hown hgr hat
     have hHeld := (KV.out.cell (SS.out _ K5.out) (fun e => by have h1 := own_lt GRR.out.row e; have h2 := TB.out; simp only at h1; omega) : w6.cell? ⟨tb, 0, none⟩ = some rv)
     refine hK _ _ ⟨fun _ => hHeld, ?_⟩
     clear hK K'
     (try simp only [Act.put]); try simp only [z2, List.set]
     refine tF (v := ?_) 7 opAt7 ?_ hHeld ?_
     case refine_2 => (intro w hSw; (try dsimp only at hSw); go_simp; all_goals (with_reducible rfl))
     (try simp only [Act.put]); try simp only [z2, List.set]
     refine next1 8 (by kernel_rfl) opAt8 fun K' hK => ?_
     have TO6 := Lib.hid (own_keptS (own_keptS TO.out K5.out (fun _ _ f => f)) KV.out (fun b hb e => by have h1 := own_lt GRR.out.row e; have h2 := TB.out; cases hb; simp only at h1; omega))
     refine step_store1 (by rfl) 58 _ _ (by rfl) tb 0 (.slice ao' (lr.length + 1) cap') (by rfl) (by rfl) (by rw [hHeld]; rfl) (TO6.out.frozenAt _) sz26 rfl rfl ?_
     intro W2 hW2
     have TO2 := Lib.hid (show W2.ownsRow tb 60 2 (.slice (some ⟨tb, 0, none⟩) 1 1) 1 [.slice ao' (lr.length + 1) cap', ov] from by rw [hW2]; exact own_putN TO6.out 0 _)
     have KP := Lib.hid (show Kept (fun k => k = tb) w6 W2 from by rw [hW2]; exact kept_put w6 tb 0 _)
     have G3 := Lib.hid (G2.out.keep KP.out (fun k _ e => by have := TB.out; omega))
     have GO3 := Lib.hid (GO2.out.keep KP.out (fun k _ e => by have := TB.out; omega))
     have KK2 := Lib.hid (((KK.out.trans K5.out (fun _ _ h => h) (fun _ _ f => f.elim) : Kept (fun k => k = tb) w2 w5).trans KV.out (fun _ _ h => h) (fun k h1 h2 => by have h3 := own_lt GRR.out.row h2; have h4 := B2.out; omega) : Kept (fun k => k = tb) w2 w6).trans KP.out (fun _ _ h => h) (fun _ _ h => h) : Kept (fun k => k = tb) w2 W2)
     clear hW2
     refine hK _ _ ⟨fun h => absurd rfl h, ?_⟩
     clear hK K'
     (try simp only [Act.put]); try simp only [z2, List.set]
     refine wpAnyF_done (by kernel_rfl) ?_ _
     go_wp2
     go_roundg (n - (j + 1))
     case measure => have := G1.out; omega
     case rel => exact ⟨j + 1, _, ov, _, lo, _, by omega, by go_num, TO2.out, G3.out, GO3.out, fun k h1 h2 => AP2.out k h2 h1, fun k hk => by have h1 := SZ.out k hk; have h2 := KP.out.size; omega, by have := LR.out; simp; omega, by have := LO.out; omega, by rw [rootsL_snoc HH.out (by rw [HY.out]; exact PZ.out), frN_app, FRR.out, forF_app]; simp only [frN, forF, HY.out], by rw [orphL_skip HH.out]; exact FRO.out, KK2.out⟩
    ·have pz1 : (y.pa == 0) = false := by simp [pz]
     have PZ := Lib.hid pz
     clear pz
     go_wp2
     go_roundg (n - (j + 1))
     case measure => have := G1.out; omega
     case rel => exact ⟨j + 1, rv, ov, lr, lo, A, by omega, by go_num, TO.out, GRR.out, GRO.out, AP.out, HA.out, by have := LR.out; omega, by have := LO.out; omega, by rw [rootsL_skip (.inr (by rw [HY.out]; exact PZ.out))]; exact FRR.out, by rw [orphL_skip HH.out]; exact FRO.out, KK.out⟩
  ·have j0 : ¬ (j : Int) < (n : Int) := by omega
   have E1 := Lib.hid (show j = n from by have := G1.out; omega)
   obtain ⟨ra, rn, rc, hrv⟩ : ∃ a n c, rv = .slice a n c := by
    rcases row_form GRRr.out.row with ⟨q1, q2⟩ | ⟨g', c', q1, _⟩
    ·exact ⟨_, _, _, q1⟩
    ·exact ⟨_, _, _, q1⟩
   obtain ⟨oa, on, oc, hov⟩ : ∃ a n c, ov = .slice a n c := by
    rcases row_form GROr.out.row with ⟨q1, q2⟩ | ⟨g', c', q1, _⟩
    ·exact ⟨_, _, _, q1⟩
    ·exact ⟨_, _, _, q1⟩
   subst hrv hov
   have RBr := Lib.hid (own_keptS RB0.out KKr.out (fun b hb e => by cases hb; have := NUM.out; simp only at e; omega))
   have x0 := own_cellN TOr.out (i := 0) rfl
   have x1 := own_cellN TOr.out (i := 1) rfl
   have y0 := own_cellN RBr.out (i := 0) rfl
   have y1 := own_cellN RBr.out (i := 1) rfl
   have f0 := RBr.out.frozenAt 0
   have f1 := RBr.out.frozenAt 1
   go_wp2
   obtain ⟨W2, hW2⟩ : ∃ W, (wr.setCell ⟨rb, 0, none⟩ (Value.slice ra rn rc)).setCell ⟨rb, 1, none⟩ (Value.slice oa on oc) = W := ⟨_, rfl⟩
   have RB2 := Lib.hid (show W2.ownsRow rb 60 2 (.slice (some ⟨rb, 0, none⟩) 1 1) 1 [Value.slice ra rn rc, Value.slice oa on oc] from by rw [← hW2]; exact own_putN (own_putN RBr.out 0 _) 1 _)
   have KP := Lib.hid (show Kept (fun k => k = rb) wr W2 from by rw [← hW2]; exact Kept.setCells (S := fun k => k = rb) (fun _ => rfl) [Value.slice ra rn rc, Value.slice oa on oc] 0 (Kept.refl _ wr))
   rw [hW2]
   clear hW2 x0 x1 y0 y1 f0 f1
   have r0 := own_cellN RB2.out (i := 0) rfl
   have r1 := own_cellN RB2.out (i := 1) rfl
   refine bodyPost_ret (v := .agg #[Value.slice ra rn rc, Value.slice oa on oc]) (by simp [results, Try.results45, go_sem, r0, r1]; try rfl) rfl ?_
   have KF := Lib.hid ((((K1.out.trans K2.out (fun _ _ f => f) (fun _ _ f => f) : Kept (fun _ => False) w w1).trans KB.out (fun _ _ f => f) (fun _ _ f => f) : Kept (fun _ => False) w w2).trans KKr.out (fun _ _ f => f) (fun k h e => by have := NUM.out; omega) : Kept (fun _ => False) w wr).trans KP.out (fun _ _ f => f) (fun k h e => by have := NUM.out; omega) : Kept (fun _ => False) w W2)
   rw [HRR.out]
   refine ⟨_, _, rfl, ?_, ?_, KF.out⟩
   ·have hf : frN lr = rootsF R := by rw [FRR.out, rootsF, HN.out, E1.out]
    rw [← hf]
    exact GRRr.out.reads.keptS KP.out (fun k _ hs e => by have := NUM.out; omega) (fun k _ hs => by have := NUM.out; omega)
   ·have hf : frN lo = orphF R := by rw [FRO.out, orphF, HN.out, E1.out]
    rw [← hf]
    exact GROr.out.reads.keptS KP.out (fun k _ hs e => by have := NUM.out; omega) (fun k _ hs => by have := NUM.out; omega)
end Go.Proofs.Ytibakmchgppndaa
/- (*Model).Get: a trace's spans; Tree, both. -/
namespace Go.Proofs.Ytibakmchgppndaa
open Go.RowKit

theorem ReadsS.kept_two {w w' : World} {v : Value} {L : List Spn} {rb : Nat} {a b : Value} {t : TypeId} (h : ReadsS w v L) (hb : w.heap[rb]? = some (.cells #[a, b] t (0, 0))) (hK : Kept (fun q => q = rb) w w') : ReadsS w' v L := by
 obtain ⟨ao, cap, rfl, h⟩ := h
 refine ⟨ao, cap, rfl, ?_⟩
 cases L with
 | nil => exact .inl rfl
 | cons m t =>
  rcases h with h | ⟨g, o, rfl, hc⟩
  ·cases h
  ·have hg : ¬ g = rb := fun e => by
    have h0 := hc 7 (.string m.no) rfl
    rw [e] at h0
    unfold World.cell? at h0
    rw [hb] at h0
    simp at h0
   exact .inr ⟨g, o, rfl, fun j u hu => hK.cell (hc j u hu) hg⟩
set_option maxRecDepth 100000 in
theorem get_bad {w : World} {p b : Nat} {M : List Spn} (t now : Int) (hb : getOk t = false) (h : ModelAt w p b M) : Calls Try.prog 16 #[.pointer (some ⟨p, 0, none⟩), .int .i64 t, .int .i64 now] w fun e w' => e = .returned (.tuple #[.agg #[.int .i64 0, .slice none 0 0], .int .i64 2]) ∧ Kept (fun _ => False) w w' := by
 have KA := ((Kept.refl (fun _ => False) w).alloc (.cells #[.int .i64 t] 3)).alloc (.cells #[.int .i64 0, .slice none 0 0] 46)
 have N := Lib.hid (none_not p b _ (KA.cell h.cell (fun f => f)))
 clear KA h
 by_cases h1 : t < 1
 ·go_enter Try.func16, Try.ntmps16
  go_wp2_with fail
  refine N.out.mono ?_
  rintro e w4 ⟨rfl, rfl⟩
  go_wp2
  refine bodyPost_ret (v := _) (by simp [results, Try.results16, go_sem]; try rfl) rfl ?_
  exact ⟨rfl, ((Kept.refl (fun _ => False) w).alloc _).alloc _⟩
 ·have h2 : 2147483647 < t := by unfold getOk at hb; simp at hb; omega
  go_enter Try.func16, Try.ntmps16
  go_wp2_with fail
  refine N.out.mono ?_
  rintro e w4 ⟨rfl, rfl⟩
  go_wp2
  refine bodyPost_ret (v := _) (by simp [results, Try.results16, go_sem]; try rfl) rfl ?_
  exact ⟨rfl, ((Kept.refl (fun _ => False) w).alloc _).alloc _⟩
set_option maxHeartbeats 8000000 in
set_option maxRecDepth 100000 in
theorem get_all {w : World} {p b : Nat} {M : List Spn} (t now : Int) (hb : getOk t = true) (h1 : 0 ≤ now) (h2 : now ≤ 4294967296) (h : ModelAt w p b M) (hM : M.length ≤ 1000000) :
  Calls Try.prog 16 #[.pointer (some ⟨p, 0, none⟩), .int .i64 t, .int .i64 now] w fun e w' => ∃ v' R, e = .returned (.tuple #[.agg #[.int .i64 t, v'], .int .i64 0]) ∧ ReadsS w' v' (ofTr t R) ∧ R.Perm (liveF now M) ∧ SortedS R ∧ Kept (fun _ => False) w w' := by
 have t1 : ¬ t < 1 := by unfold getOk at hb; simp at hb; omega
 have t2 : ¬ 2147483647 < t := by unfold getOk at hb; simp at hb; omega
 have HH := Lib.hid h
 obtain ⟨W1, hW1⟩ : ∃ W, (w.alloc (.cells #[.int .i64 t] 3)).alloc (.cells #[.int .i64 0, .slice none 0 0] 46) = W := ⟨_, rfl⟩
 have k1 : Kept (fun _ => False) w W1 := by rw [← hW1]; exact ((Kept.refl _ w).alloc _).alloc _
 have N := Lib.hid (none_not p b W1 (k1.cell h.cell (fun f => f)))
 obtain ⟨tb, htb⟩ : ∃ q, w.heap.size = q := ⟨_, rfl⟩
 obtain ⟨rb, hrb⟩ : ∃ q, tb + 1 = q := ⟨_, rfl⟩
 have TB := Lib.hid (show W1.cell? ⟨tb, 0, none⟩ = some (.int .i64 t) by rw [← hW1, ← htb]; simp)
 have R0 := Lib.hid (show W1.cell? ⟨rb, 0, none⟩ = some (.int .i64 0) by rw [← hW1, ← hrb, ← htb]; simp)
 have R1 := Lib.hid (show W1.cell? ⟨rb, 1, none⟩ = some (.slice none 0 0) by rw [← hW1, ← hrb, ← htb]; simp)
 have RF := Lib.hid (show ∀ j, W1.frozen? ⟨rb, j, none⟩ = false from fun j => by rw [← hW1, ← hrb, ← htb]; simp)
 have B1 := Lib.hid (show W1.heap[rb]? = some (.cells #[.int .i64 0, .slice none 0 0] 46 (0, 0)) by rw [← hW1, ← hrb, ← htb]; exact heap_second w _ _)
 have S1 := Lib.hid (show W1.heap.size = rb + 1 by rw [← hW1, ← hrb, ← htb]; simp)
 have K1 := Lib.hid k1
 have TBE := Lib.hid htb
 have RBE := Lib.hid hrb
 clear h k1 hb
 go_enter Try.func16, Try.ntmps16
 go_wp2_with fail
 refine N.out.mono ?_
 rintro e w4 ⟨rfl, rfl⟩
 clear hW1 htb hrb
 have tb1 := TB.out
 have SP := Lib.hid (spans_row now h1 h2 (HH.out.keptF K1.out) (by omega : M.length ≤ 1000000000))
 go_wp2_with fail
 refine SP.out.mono ?_
 rintro e w2 ⟨k2, v2, R, rfl, o2, p2, s2⟩
 have HRL := Lib.hid (show R.length ≤ 1000000 by have e1 := p2.length_eq; have e2 := live_len now M; omega)
 have PS := Lib.hid (And.intro p2 s2)
 have tb2 := k2.cell TB.out (fun f => f)
 have D := Lib.hid (delete_all (t := t) (bk := tb) o2 tb2 (fun e => by have h1 := own_from o2 e; have h2 := S1.out; have h3 := RBE.out; omega) HRL.out)
 have K2 := Lib.hid k2
 have OB := Lib.hid (fun q (hq : v2.ownBlock = some q) => show rb < q by have h1 := own_from o2 hq; have h2 := S1.out; omega)
 clear k2 p2 s2 o2
 go_wp2_with fail
 refine D.out.mono ?_
 rintro e w3 ⟨v3, rfl, r3, k3⟩
 have R3 := Lib.hid r3
 have nrb : ¬ v2.ownBlock = some rb := fun e => by have := OB.out _ e; omega
 have ntb : ¬ v2.ownBlock = some tb := fun e => by have := OB.out _ e; have := RBE.out; omega
 have K3 := Lib.hid (kept_fresh K1.out (K2.out.trans k3 (fun _ _ f => f.elim) (fun _ _ e => e) : Kept (fun q => v2.ownBlock = some q) W1 w3) (fun q e => by have := OB.out _ e; have := RBE.out; have := TBE.out; omega))
 have tb3 := k3.cell tb2 ntb
 have r0 := k3.cell (K2.out.cell R0.out (fun f => f)) nrb
 have r1 := k3.cell (K2.out.cell R1.out (fun f => f)) nrb
 have f0 := k3.frozen (K2.out.frozen (RF.out 0) (World.block_lt_of_cell? _ _ R0.out) (fun f => f)) (World.block_lt_of_cell? _ _ (K2.out.cell R0.out (fun f => f))) nrb
 have f1 := k3.frozen (K2.out.frozen (RF.out 1) (World.block_lt_of_cell? _ _ R1.out) (fun f => f)) (World.block_lt_of_cell? _ _ (K2.out.cell R1.out (fun f => f))) nrb
 have B3 := Lib.hid ((k3.block rb (World.block_lt_of_cell? _ _ (K2.out.cell R0.out (fun f => f))) nrb).trans ((K2.out.block rb (World.block_lt_of_cell? _ _ R0.out) (fun f => f)).trans B1.out))
 obtain ⟨a3, c3, ev3, _⟩ := id r3
 obtain ⟨n3, hn3⟩ : ∃ n, (ofTr t R).length = n := ⟨_, rfl⟩
 rw [hn3] at ev3
 subst ev3
 clear k3 r3 tb1 tb2 nrb ntb hn3
 go_wp2
 have KS : Kept (fun q => q = rb) w3 ((w3.setCell ⟨rb, 0, none⟩ (.int .i64 t)).setCell ⟨rb, 1, none⟩ (.slice a3 n3 c3)) := ((Kept.refl (fun q => q = rb) w3).setCell (fun _ => rfl) _).setCell (fun _ => rfl) _
 have s0 := World.cell?_setCell_same w3 ⟨rb, 0, none⟩ (.int .i64 t) r0
 have r1' : (w3.setCell ⟨rb, 0, none⟩ (.int .i64 t)).cell? ⟨rb, 1, none⟩ = some (.slice none 0 0) := by rw [World.cell?_setCell_other _ _ _ _ (by simp)]; exact r1
 have s1 := World.cell?_setCell_same (w3.setCell ⟨rb, 0, none⟩ (.int .i64 t)) ⟨rb, 1, none⟩ (.slice a3 n3 c3) r1'
 refine bodyPost_ret (v := _) (by simp [results, Try.results16, go_sem, s0, s1]; try rfl) rfl ?_
 refine ⟨_, R, rfl, ?_, PS.out.1, PS.out.2, kept_fresh K3.out KS (fun q e => by have := TBE.out; have := RBE.out; omega)⟩
 exact R3.out.kept_two B3.out KS
end Go.Proofs.Ytibakmchgppndaa
/- Tree, both. -/
namespace Go.Proofs.Ytibakmchgppndaa
open Go.RowKit

theorem box2 {w : World} {rb : Nat} {x y : Value} (u v : Value) (r0 : w.cell? ⟨rb, 0, none⟩ = some x) (r1 : w.cell? ⟨rb, 1, none⟩ = some y) (o : Obj) :
  (((w.setCell ⟨rb, 0, none⟩ u).setCell ⟨rb, 1, none⟩ v).alloc o).cell? ⟨rb, 0, none⟩ = some u ∧ (((w.setCell ⟨rb, 0, none⟩ u).setCell ⟨rb, 1, none⟩ v).alloc o).cell? ⟨rb, 1, none⟩ = some v := by
 have d0 := World.cell?_setCell_same w ⟨rb, 0, none⟩ u r0
 have r1' : (w.setCell ⟨rb, 0, none⟩ u).cell? ⟨rb, 1, none⟩ = some y := by rw [World.cell?_setCell_other _ _ _ _ (by simp)]; exact r1
 have d1 := World.cell?_setCell_same (w.setCell ⟨rb, 0, none⟩ u) ⟨rb, 1, none⟩ v r1'
 have d0' : ((w.setCell ⟨rb, 0, none⟩ u).setCell ⟨rb, 1, none⟩ v).cell? ⟨rb, 0, none⟩ = some u := by rw [World.cell?_setCell_other _ _ _ _ (by simp)]; exact d0
 exact ⟨((Kept.refl (fun _ => False) _).alloc o).cell d0' (fun f => f), ((Kept.refl (fun _ => False) _).alloc o).cell d1 (fun f => f)⟩
set_option maxHeartbeats 4000000 in
set_option maxRecDepth 100000 in
theorem tree_bad {w : World} {p b : Nat} {M : List Spn} (t now : Int) (hb : getOk t = false) (h : ModelAt w p b M) : Calls Try.prog 22 #[.pointer (some ⟨p, 0, none⟩), .int .i64 t, .int .i64 now] w fun e w' => e = .returned (.tuple #[.agg #[.slice none 0 0, .slice none 0 0], .int .i64 2]) ∧ Kept (fun _ => False) w w' := by
 have k1 := (Kept.refl (fun _ => False) w).alloc (.cells #[.slice none 0 0, .slice none 0 0] 60)
 have G := Lib.hid (get_bad t now hb (h.keptF k1))
 have K1 := Lib.hid k1
 obtain ⟨rb, hrb⟩ : ∃ q, w.heap.size = q := ⟨_, rfl⟩
 obtain ⟨W1, hW1⟩ : ∃ W, w.alloc (.cells #[.slice none 0 0, .slice none 0 0] 60) = W := ⟨_, rfl⟩
 have r0 : W1.cell? ⟨rb, 0, none⟩ = some (.slice none 0 0) := by rw [← hW1, ← hrb]; simp
 have r1 : W1.cell? ⟨rb, 1, none⟩ = some (.slice none 0 0) := by rw [← hW1, ← hrb]; simp
 have f0 : W1.frozen? ⟨rb, 0, none⟩ = false := by rw [← hW1, ← hrb]; simp
 have f1 : W1.frozen? ⟨rb, 1, none⟩ = false := by rw [← hW1, ← hrb]; simp
 rw [hW1] at G K1
 have RBE := Lib.hid hrb
 clear k1
 go_enter Try.func22, Try.ntmps22
 go_wp2_with fail
 refine G.out.mono ?_
 rintro e w2 ⟨rfl, k2⟩
 have hl := World.block_lt_of_cell? _ _ r0
 have K2 := Lib.hid (keptFF K1.out k2)
 replace r0 := k2.cell r0 (fun f => f)
 replace r1 := k2.cell r1 (fun f => f)
 replace f0 := k2.frozen f0 hl (fun f => f)
 replace f1 := k2.frozen f1 hl (fun f => f)
 have a0 := fun o => ((Kept.refl (fun _ => False) w2).alloc o).cell r0 (fun f => f)
 have a1 := fun o => ((Kept.refl (fun _ => False) w2).alloc o).cell r1 (fun f => f)
 have hl2 := World.block_lt_of_cell? _ _ r0
 have b0 := fun o => ((Kept.refl (fun _ => False) w2).alloc o).frozen f0 hl2 (fun f => f)
 have b1 := fun o => ((Kept.refl (fun _ => False) w2).alloc o).frozen f1 hl2 (fun f => f)
 have hl3 : rb < w2.heap.size := hl2
 clear k2 hl hW1 hrb hl2
 go_wp2
 obtain ⟨c0, c1⟩ := box2 (.slice none 0 0) (.slice none 0 0) r0 r1 (.cells #[.int .i64 0, .slice none 0 0] 46)
 refine bodyPost_ret (v := _) (by simp [results, Try.results22, go_sem, c0, c1]; try rfl) rfl ?_
 exact ⟨rfl, ((kept_fresh K2.out ((((Kept.refl (fun q => q = rb) w2).setCell (fun _ => rfl) _).setCell (fun _ => rfl) _)) (fun q e => by have := RBE.out; omega))).alloc _⟩
set_option maxHeartbeats 4000000 in
set_option maxRecDepth 100000 in
theorem tree_all {w : World} {p b : Nat} {M : List Spn} (t now : Int) (hb : getOk t = true) (h1 : 0 ≤ now) (h2 : now ≤ 4294967296) (h : ModelAt w p b M) (hl : M.length ≤ 1000) : Calls Try.prog 22 #[.pointer (some ⟨p, 0, none⟩), .int .i64 t, .int .i64 now] w fun e w' => ∃ rv ov R, e = .returned (.tuple #[.agg #[rv, ov], .int .i64 0]) ∧ ReadsF (fun _ => True) w' rv (rootsF (cntF (ofTr t R))) ∧ ReadsF (fun _ => True) w' ov (orphF (cntF (ofTr t R))) ∧ R.Perm (liveF now M) ∧ SortedS R ∧ Kept (fun _ => False) w w' := by
 have k1 := (Kept.refl (fun _ => False) w).alloc (.cells #[.slice none 0 0, .slice none 0 0] 60)
 have G := Lib.hid (get_all t now hb h1 h2 (h.keptF k1) (by omega))
 have K1 := Lib.hid k1
 have LL := Lib.hid hl
 obtain ⟨rb, hrb⟩ : ∃ q, w.heap.size = q := ⟨_, rfl⟩
 obtain ⟨W1, hW1⟩ : ∃ W, w.alloc (.cells #[.slice none 0 0, .slice none 0 0] 60) = W := ⟨_, rfl⟩
 have r0 : W1.cell? ⟨rb, 0, none⟩ = some (.slice none 0 0) := by rw [← hW1, ← hrb]; simp
 have r1 : W1.cell? ⟨rb, 1, none⟩ = some (.slice none 0 0) := by rw [← hW1, ← hrb]; simp
 have f0 : W1.frozen? ⟨rb, 0, none⟩ = false := by rw [← hW1, ← hrb]; simp
 have f1 : W1.frozen? ⟨rb, 1, none⟩ = false := by rw [← hW1, ← hrb]; simp
 rw [hW1] at G K1
 have RBE := Lib.hid hrb
 clear k1 hl
 go_enter Try.func22, Try.ntmps22
 go_wp2_with fail
 refine G.out.mono ?_
 rintro e w2 ⟨v2, R, rfl, rs, pr, sr, k2⟩
 have hl := World.block_lt_of_cell? _ _ r0
 have K2 := Lib.hid (keptFF K1.out k2)
 replace r0 := k2.cell r0 (fun f => f)
 replace r1 := k2.cell r1 (fun f => f)
 replace f0 := k2.frozen f0 hl (fun f => f)
 replace f1 := k2.frozen f1 hl (fun f => f)
 have PS := Lib.hid (And.intro pr sr)
 have RS := Lib.hid rs
 have NL := Lib.hid (show (ofTr t R).length ≤ 1000 by have e1 := PS.out.1.length_eq; have e2 := live_len now M; have e3 := ofTr_len t R; have := LL.out; omega)
 obtain ⟨a2, n2, c2, rfl⟩ : ∃ a n c, v2 = .slice a n c := by obtain ⟨a, c, e, _⟩ := rs; exact ⟨a, _, c, e⟩
 clear k2 hl hW1 hrb rs
 go_wp2_with fail
 obtain ⟨w3, hw3⟩ : ∃ W, w2.alloc (.cells #[.int .i64 t, .slice a2 n2 c2] 46) = W := ⟨_, rfl⟩
 have k3 : Kept (fun _ => False) w2 w3 := by rw [← hw3]; exact (Kept.refl _ _).alloc _
 rw [hw3]
 have hl := World.block_lt_of_cell? _ _ r0
 replace r0 := k3.cell r0 (fun f => f)
 replace r1 := k3.cell r1 (fun f => f)
 replace f0 := k3.frozen f0 hl (fun f => f)
 replace f1 := k3.frozen f1 hl (fun f => f)
 have K3 := Lib.hid (keptFF K2.out k3)
 have RL3 := Lib.hid (show rb < w3.heap.size from World.block_lt_of_cell? _ _ r0)
 refine (tof_any w3 _ _ (RS.out.keptF k3) NL.out).mono ?_
 rintro e w4 ⟨rv, ov, rfl, fr, fo, k4⟩
 have hl4 := World.block_lt_of_cell? _ _ r0
 replace r0 := k4.cell r0 (fun f => f)
 replace r1 := k4.cell r1 (fun f => f)
 replace f0 := k4.frozen f0 hl4 (fun f => f)
 replace f1 := k4.frozen f1 hl4 (fun f => f)
 have K4 := Lib.hid (keptFF K3.out k4)
 have FR := Lib.hid fr; have FO := Lib.hid fo
 obtain ⟨ra, rc, er, _⟩ := id fr
 obtain ⟨oa, oc, eo, _⟩ := id fo
 obtain ⟨rn, hrn⟩ : ∃ n, (rootsF (cntF (ofTr t R))).len = n := ⟨_, rfl⟩
 obtain ⟨on, hon⟩ : ∃ n, (orphF (cntF (ofTr t R))).len = n := ⟨_, rfl⟩
 rw [hrn] at er
 rw [hon] at eo
 subst er
 subst eo
 clear k3 k4 hl hl4 hw3 fr fo hrn hon
 go_wp2
 obtain ⟨c0, c1⟩ := box2 (.slice ra rn rc) (.slice oa on oc) r0 r1 (.cells #[] 46)
 have d0 := World.cell?_setCell_same w4 ⟨rb, 0, none⟩ (.slice ra rn rc) r0
 have r1' : (w4.setCell ⟨rb, 0, none⟩ (.slice ra rn rc)).cell? ⟨rb, 1, none⟩ = some (.slice none 0 0) := by rw [World.cell?_setCell_other _ _ _ _ (by simp)]; exact r1
 have d1 := World.cell?_setCell_same (w4.setCell ⟨rb, 0, none⟩ (.slice ra rn rc)) ⟨rb, 1, none⟩ (.slice oa on oc) r1'
 refine bodyPost_ret (v := _) (by simp [results, Try.results22, go_sem, d0, d1]; try rfl) rfl ?_
 have KS : Kept (fun q => q = rb) w4 ((w4.setCell ⟨rb, 0, none⟩ (.slice ra rn rc)).setCell ⟨rb, 1, none⟩ (.slice oa on oc)) := ((Kept.refl (fun q => q = rb) w4).setCell (fun _ => rfl) _).setCell (fun _ => rfl) _
 exact ⟨_, _, R, rfl, FR.out.keptS KS (fun q _ h e => by have := RL3.out; omega) (fun _ _ _ => trivial), FO.out.keptS KS (fun q _ h e => by have := RL3.out; omega) (fun _ _ _ => trivial), PS.out.1, PS.out.2, kept_fresh K4.out KS (fun q e => by have := RBE.out; omega)⟩
set_option maxHeartbeats 4000000 in
set_option maxRecDepth 100000 in
theorem rtree_bad {w : World} {mp : Nat} (t now : Int) (hb : getOk t = false) : Calls Try.prog 23 #[.pointer (some ⟨mp, 0, none⟩), .int .i64 t, .int .i64 now] w fun e w' => e = .returned (.tuple #[.agg #[.slice none 0 0, .slice none 0 0], .int .i64 2]) ∧ Kept (fun _ => False) w w' := by
 have k1 := (Kept.refl (fun _ => False) w).alloc (.cells #[.slice none 0 0, .slice none 0 0] 60)
 have G := Lib.hid (rget_bad (w := w.alloc (.cells #[.slice none 0 0, .slice none 0 0] 60)) (mp := mp) t now hb)
 have K1 := Lib.hid k1
 obtain ⟨rb, hrb⟩ : ∃ q, w.heap.size = q := ⟨_, rfl⟩
 obtain ⟨W1, hW1⟩ : ∃ W, w.alloc (.cells #[.slice none 0 0, .slice none 0 0] 60) = W := ⟨_, rfl⟩
 have r0 : W1.cell? ⟨rb, 0, none⟩ = some (.slice none 0 0) := by rw [← hW1, ← hrb]; simp
 have r1 : W1.cell? ⟨rb, 1, none⟩ = some (.slice none 0 0) := by rw [← hW1, ← hrb]; simp
 have f0 : W1.frozen? ⟨rb, 0, none⟩ = false := by rw [← hW1, ← hrb]; simp
 have f1 : W1.frozen? ⟨rb, 1, none⟩ = false := by rw [← hW1, ← hrb]; simp
 rw [hW1] at G K1
 have RBE := Lib.hid hrb
 clear k1
 go_enter Try.func23, Try.ntmps23
 go_wp2_with fail
 refine G.out.mono ?_
 rintro e w2 ⟨rfl, k2⟩
 have hl := World.block_lt_of_cell? _ _ r0
 have K2 := Lib.hid (keptFF K1.out k2)
 replace r0 := k2.cell r0 (fun f => f)
 replace r1 := k2.cell r1 (fun f => f)
 replace f0 := k2.frozen f0 hl (fun f => f)
 replace f1 := k2.frozen f1 hl (fun f => f)
 have a0 := fun o => ((Kept.refl (fun _ => False) w2).alloc o).cell r0 (fun f => f)
 have a1 := fun o => ((Kept.refl (fun _ => False) w2).alloc o).cell r1 (fun f => f)
 have hl2 := World.block_lt_of_cell? _ _ r0
 have b0 := fun o => ((Kept.refl (fun _ => False) w2).alloc o).frozen f0 hl2 (fun f => f)
 have b1 := fun o => ((Kept.refl (fun _ => False) w2).alloc o).frozen f1 hl2 (fun f => f)
 have hl3 : rb < w2.heap.size := hl2
 clear k2 hl hW1 hrb hl2
 go_wp2
 obtain ⟨c0, c1⟩ := box2 (.slice none 0 0) (.slice none 0 0) r0 r1 (.cells #[.int .i64 0, .slice none 0 0] 46)
 refine bodyPost_ret (v := _) (by simp [results, Try.results23, go_sem, c0, c1]; try rfl) rfl ?_
 exact ⟨rfl, ((kept_fresh K2.out ((((Kept.refl (fun q => q = rb) w2).setCell (fun _ => rfl) _).setCell (fun _ => rfl) _)) (fun q e => by have := RBE.out; omega))).alloc _⟩
set_option maxHeartbeats 4000000 in
set_option maxRecDepth 100000 in
theorem rtree_all {w : World} {mp : Nat} {L : List Spn} (t now : Int) (hb : getOk t = true) (h1 : 0 ≤ now) (h2 : now ≤ 4294967296) (h : RefAt w mp L) (hm : ∀ m ∈ L, chkB m = true) (hl : L.length ≤ 1000) : Calls Try.prog 23 #[.pointer (some ⟨mp, 0, none⟩), .int .i64 t, .int .i64 now] w fun e w' => ∃ rv ov, e = .returned (.tuple #[.agg #[rv, ov], .int .i64 0]) ∧ ReadsF (fun _ => True) w' rv (rootsF (cntF (ofTr t (rowR now L)))) ∧ ReadsF (fun _ => True) w' ov (orphF (cntF (ofTr t (rowR now L)))) ∧ Kept (fun _ => False) w w' := by
 have k1 := (Kept.refl (fun _ => False) w).alloc (.cells #[.slice none 0 0, .slice none 0 0] 60)
 have G := Lib.hid (rget_all t now hb h1 h2 (h.keptF k1) hm (by omega))
 have K1 := Lib.hid k1
 have LL := Lib.hid hl
 obtain ⟨rb, hrb⟩ : ∃ q, w.heap.size = q := ⟨_, rfl⟩
 obtain ⟨W1, hW1⟩ : ∃ W, w.alloc (.cells #[.slice none 0 0, .slice none 0 0] 60) = W := ⟨_, rfl⟩
 have r0 : W1.cell? ⟨rb, 0, none⟩ = some (.slice none 0 0) := by rw [← hW1, ← hrb]; simp
 have r1 : W1.cell? ⟨rb, 1, none⟩ = some (.slice none 0 0) := by rw [← hW1, ← hrb]; simp
 have f0 : W1.frozen? ⟨rb, 0, none⟩ = false := by rw [← hW1, ← hrb]; simp
 have f1 : W1.frozen? ⟨rb, 1, none⟩ = false := by rw [← hW1, ← hrb]; simp
 rw [hW1] at G K1
 have RBE := Lib.hid hrb
 clear k1 hl
 go_enter Try.func23, Try.ntmps23
 go_wp2_with fail
 refine G.out.mono ?_
 rintro e w2 ⟨v2, rfl, os, k2⟩
 have hl := World.block_lt_of_cell? _ _ r0
 have K2 := Lib.hid (keptFF K1.out k2)
 replace r0 := k2.cell r0 (fun f => f)
 replace r1 := k2.cell r1 (fun f => f)
 replace f0 := k2.frozen f0 hl (fun f => f)
 replace f1 := k2.frozen f1 hl (fun f => f)
 have rs := ReadsS.of_row os
 have RS := Lib.hid rs
 have NL := Lib.hid (show (ofTr t (rowR now L)).length ≤ 1000 by have e1 := foldR_len (liveF now L); have e2 := live_len now L; have e3 := ofTr_len t (rowR now L); have := LL.out; unfold rowR at *; omega)
 obtain ⟨a2, n2, c2, rfl⟩ : ∃ a n c, v2 = .slice a n c := by obtain ⟨a, c, e, _⟩ := rs; exact ⟨a, _, c, e⟩
 clear k2 hl hW1 hrb rs
 go_wp2_with fail
 obtain ⟨w3, hw3⟩ : ∃ W, w2.alloc (.cells #[.int .i64 t, .slice a2 n2 c2] 46) = W := ⟨_, rfl⟩
 have k3 : Kept (fun _ => False) w2 w3 := by rw [← hw3]; exact (Kept.refl _ _).alloc _
 rw [hw3]
 have hl := World.block_lt_of_cell? _ _ r0
 replace r0 := k3.cell r0 (fun f => f)
 replace r1 := k3.cell r1 (fun f => f)
 replace f0 := k3.frozen f0 hl (fun f => f)
 replace f1 := k3.frozen f1 hl (fun f => f)
 have K3 := Lib.hid (keptFF K2.out k3)
 have RL3 := Lib.hid (show rb < w3.heap.size from World.block_lt_of_cell? _ _ r0)
 refine (rof_any w3 _ _ (RS.out.keptF k3) NL.out).mono ?_
 rintro e w4 ⟨rv, ov, rfl, fr, fo, k4⟩
 have hl4 := World.block_lt_of_cell? _ _ r0
 replace r0 := k4.cell r0 (fun f => f)
 replace r1 := k4.cell r1 (fun f => f)
 replace f0 := k4.frozen f0 hl4 (fun f => f)
 replace f1 := k4.frozen f1 hl4 (fun f => f)
 have K4 := Lib.hid (keptFF K3.out k4)
 have FR := Lib.hid fr; have FO := Lib.hid fo
 obtain ⟨ra, rc, er, _⟩ := id fr
 obtain ⟨oa, oc, eo, _⟩ := id fo
 obtain ⟨rn, hrn⟩ : ∃ n, (rootsF (cntF (ofTr t (rowR now L)))).len = n := ⟨_, rfl⟩
 obtain ⟨on, hon⟩ : ∃ n, (orphF (cntF (ofTr t (rowR now L)))).len = n := ⟨_, rfl⟩
 rw [hrn] at er
 rw [hon] at eo
 subst er
 subst eo
 clear k3 k4 hl hl4 hw3 fr fo hrn hon
 go_wp2
 obtain ⟨c0, c1⟩ := box2 (.slice ra rn rc) (.slice oa on oc) r0 r1 (.cells #[] 46)
 have d0 := World.cell?_setCell_same w4 ⟨rb, 0, none⟩ (.slice ra rn rc) r0
 have r1' : (w4.setCell ⟨rb, 0, none⟩ (.slice ra rn rc)).cell? ⟨rb, 1, none⟩ = some (.slice none 0 0) := by rw [World.cell?_setCell_other _ _ _ _ (by simp)]; exact r1
 have d1 := World.cell?_setCell_same (w4.setCell ⟨rb, 0, none⟩ (.slice ra rn rc)) ⟨rb, 1, none⟩ (.slice oa on oc) r1'
 refine bodyPost_ret (v := _) (by simp [results, Try.results23, go_sem, d0, d1]; try rfl) rfl ?_
 have KS : Kept (fun q => q = rb) w4 ((w4.setCell ⟨rb, 0, none⟩ (.slice ra rn rc)).setCell ⟨rb, 1, none⟩ (.slice oa on oc)) := ((Kept.refl (fun q => q = rb) w4).setCell (fun _ => rfl) _).setCell (fun _ => rfl) _
 exact ⟨_, _, rfl, FR.out.keptS KS (fun q _ h e => by have := RL3.out; omega) (fun _ _ _ => trivial), FO.out.keptS KS (fun q _ h e => by have := RL3.out; omega) (fun _ _ _ => trivial), kept_fresh K4.out KS (fun q e => by have := RBE.out; omega)⟩
end Go.Proofs.Ytibakmchgppndaa
/- spoorref21's Traces: rising, each once. -/
namespace Go.Proofs.Ytibakmchgppndaa
open Go.RowKit

def intsV (T : List Int) : List Value := T.map (fun x => .int .i64 x)
theorem intsV_len (T : List Int) : (intsV T).length = T.length := by simp [intsV]
theorem intsV_snoc (T : List Int) (x : Int) : intsV (T ++ [x]) = intsV T ++ [.int .i64 x] := by simp [intsV]
theorem intsV_at {T : List Int} {i : Nat} {x : Int} (h : T[i]? = some x) : (intsV T)[i]? = some (.int .i64 x) := by simp [intsV, h]
def trStep (after : Int) (out : List Int) (s : Spn) : List Int := if after < s.tr ∧ ¬ out.getLast? = some s.tr then out ++ [s.tr] else out
def tracesF (after : Int) (L : List Spn) : List Int := L.foldl (trStep after) []
theorem traces_snoc (after : Int) (L : List Spn) (x : Spn) : tracesF after (L ++ [x]) = trStep after (tracesF after L) x := by simp [tracesF]
theorem trStep_len (after : Int) (out : List Int) (s : Spn) : (trStep after out s).length ≤ out.length + 1 := by unfold trStep; split <;> simp
theorem traces_len_aux (after : Int) : ∀ (L : List Spn) (a : List Int), (L.foldl (trStep after) a).length ≤ a.length + L.length
 | [], a => Nat.le_refl _
 | x :: t, a => by
  have h1 := traces_len_aux after t (trStep after a x)
  have h2 := trStep_len after a x
  simp only [List.foldl_cons, List.length_cons]; omega
theorem traces_len (after : Int) (L : List Spn) : (tracesF after L).length ≤ L.length := by have := traces_len_aux after L []; simpa [tracesF] using this
theorem last_at {T : List Int} {q : Nat} {y : Int} (h : T.length = q + 1) (hy : T[q]? = some y) : T.getLast? = some y := by
 rw [List.getLast?_eq_getElem?, h]; exact hy
theorem own_int {w : World} {base g n cap : Nat} {T : List Int} (h : w.ownsRow base 3 1 (.slice (some ⟨g, 0, none⟩) n cap) n (intsV T)) {i : Nat} {x : Int} (hx : T[i]? = some x) : w.cell? ⟨g, i, none⟩ = some (.int .i64 x) := by
 have := h.cells (g := g) rfl i _ (intsV_at hx)
 rwa [add_mid, Nat.zero_add] at this
set_option maxHeartbeats 8000000 in
set_option maxRecDepth 100000 in
theorem traces_all {w : World} {mp : Nat} {L : List Spn} (after now : Int) (h1 : 0 ≤ now) (h2 : now ≤ 4294967296) (hr : RefAt w mp L) (hm : ∀ m ∈ L, chkB m = true) (hL : L.length ≤ 1000000) :
  Calls Try.prog 40 #[.pointer (some ⟨mp, 0, none⟩), .int .i64 after, .int .i64 now] w fun e w' => ∃ v', e = .returned v' ∧ w'.ownsRow w.heap.size 3 1 v' (tracesF after (rowR now L)).length (intsV (tracesF after (rowR now L))) ∧ Kept (fun _ => False) w w' := by
 obtain ⟨i3, hi3, z3', s3, b3⟩ := info_parts inf3t
 obtain ⟨⟨vL, hc, ho⟩, _⟩ := hr
 have HR := Lib.hid (r_all now h1 h2 hc ho hm hL)
 have RL := Lib.hid (show (rowR now L).length ≤ 1000000 by have a1 := foldR_len (liveF now L); have a2 := live_len now L; unfold rowR; omega)
 obtain ⟨RR, hRR⟩ : ∃ R, rowR now L = R := ⟨_, rfl⟩
 rw [show foldR (liveF now L) = RR from hRR] at HR
 rw [hRR] at RL ⊢
 obtain ⟨n, hn⟩ : ∃ n, RR.length = n := ⟨_, rfl⟩
 rw [hn] at HR RL
 have LN := Lib.hid hn
 have RLn := RL.out
 clear hc ho hm hRR hn
 go_enter Try.func40, Try.ntmps40
 go_wp2_with fail
 refine HR.out.mono ?_
 rintro e w2 ⟨v2, rfl, o2, k2⟩
 obtain ⟨a2, c2, rfl⟩ := own_slice o2
 have O2 := Lib.hid o2; have K2 := Lib.hid k2
 clear o2 k2
 go_wp2
 go_loopg [7, 9] n (fun gh s t wr => ∃ (i : Nat) (T : List Int), i + gh = n ∧ t = .int .i64 i ∧ T = tracesF after (RR.take i) ∧ wr.ownsRow w2.heap.size 3 1 s T.length (intsV T) ∧ Kept (fun _ => False) w2 wr)
 case atStart => exact ⟨0, [], by omega, rfl, rfl, World.ownsRow_nil _ _ _ _, Kept.refl _ _⟩
 case round =>
  obtain ⟨i, T, ji, rfl, hT, ot, kk⟩ := hrel
  have JI := Lib.hid ji; have HT := Lib.hid hT; have KK := Lib.hid kk
  obtain ⟨ao, co, rfl⟩ := own_slice ot
  obtain ⟨m, hm⟩ : ∃ m, T.length = m := ⟨_, rfl⟩
  rw [hm] at ot ⊢
  have OT := Lib.hid ot
  have MN := Lib.hid hm
  have i0 : (0 : Int) ≤ (i : Int) := by omega
  have hml : m ≤ 1000000 := by
   rw [← hm, hT]
   have a1 := traces_len after (RR.take i)
   rw [List.length_take] at a1
   omega
  clear ji hT ot kk hm
  by_cases hin : i < n
  ·have i1 : (i : Int) < (n : Int) := by omega
   have i2 : (i : Int) ≤ 1000000 := by omega
   obtain ⟨x, hx⟩ : ∃ x, RR[i]? = some x := ⟨_, List.getElem?_eq_getElem (by rw [LN.out]; exact hin)⟩
   obtain ⟨g, rfl, hcs⟩ : ∃ g, a2 = some ⟨g, 0, none⟩ ∧ ∀ j u, (cellsS RR)[j]? = some u → w2.cell? ⟨g, j, none⟩ = some u := by
    rcases row_form O2.out with ⟨h1, h2⟩ | ⟨g, c, h1, _, _, _, hc2⟩
    ·omega
    ·cases h1; exact ⟨g, rfl, hc2⟩
   have q0 := (ReadsS.at (o := 0) (fun j u hu => by rw [Nat.zero_add]; exact KK.out.cell (hcs j u hu) (fun f => f)) hx).1
   rw [Nat.zero_add] at q0
   have TS := Lib.hid (show tracesF after (RR.take (i + 1)) = trStep after T x by rw [rtake_snoc hx, traces_snoc, HT.out])
   clear hcs hx
   obtain ⟨xt, hxt⟩ : ∃ t, x.tr = t := ⟨_, rfl⟩
   have XT := Lib.hid hxt
   rw [hxt] at q0
   clear hxt
   by_cases ha : after < xt
   ·by_cases h0 : m = 0
    ·subst h0
     have ST := Lib.hid (show trStep after T x = T ++ [xt] by
      have hTn : T = [] := List.eq_nil_of_length_eq_zero MN.out
      unfold trStep; rw [XT.out, if_pos ⟨ha, by rw [hTn]; simp⟩])
     go_wp2
     go_quiet (fail)
     go_wp2_with (at_builtin; refine stopH ?_)
     intro _
     refine wpList_append_own _ rfl _ _ 55 rfl w2.heap.size 3 i3 _ 1 8 Try.underlying55 hi3 z3' s3 b3 rfl (by decide) _ 0 _ rfl (own_kept OT.out ((kept_dn (Kept.refl (fun _ => False) wr) _).alloc _) (fun _ _ f => f)) ⟨wr.heap.size, 0, none⟩ 1 1 [.int .i64 xt] rfl rfl (World.news_of_block (heap_alloc_new _ _)) ?qa ?qb ?qc ?qd ?_
     case qa => intro u hu; simp at hu; subst hu; rfl
     case qb => unfold maxLen; omega
     case qc => omega
     case qd => have h1 := KK.out.size; simp; omega
     intro v8 w8 own8 hg8 hn8
     have K8 := Lib.hid ((((kept_dn KK.out _).alloc (Obj.cells #[.int .i64 xt] 3)).grown hg8 (fun q hq hlt => by have h1 := own_from OT.out hq; omega)))
     have O8 := Lib.hid own8
     obtain ⟨ao8, cap8, rfl⟩ := own_slice own8
     clear own8 hg8 hn8
     go_wp2
     go_roundg (n - i - 1)
     case measure => have := JI.out; omega
     case rel => exact ⟨i + 1, T ++ [xt], by have := JI.out; omega, by go_num, by rw [TS.out, ST.out], by rw [List.length_append, MN.out, intsV_snoc]; exact O8.out, K8.out⟩
    ·obtain ⟨q, hq⟩ : ∃ q, m = q + 1 := ⟨m - 1, by omega⟩
     obtain ⟨y, hy⟩ : ∃ y, T[q]? = some y := ⟨_, List.getElem?_eq_getElem (by rw [MN.out]; omega)⟩
     have LA := Lib.hid (last_at (by rw [MN.out, hq]) hy)
     obtain ⟨go, rfl, _⟩ : ∃ g, ao = some ⟨g, 0, none⟩ ∧ True := by
      rcases row_form OT.out with ⟨h1, h2⟩ | ⟨g, c, h1, _⟩
      ·exact absurd h2 h0
      ·cases h1; exact ⟨g, rfl, trivial⟩
     have qy := own_int OT.out hy
     have e0 : ((m : Int) == 0) = false := by simp; omega
     have e1 : IntKind.i64.wrap ((m : Int) - 1) = (q : Int) := by rw [IntWalk.i64_in _ (by omega)]; omega
     have q0' : (0 : Int) ≤ (q : Int) := by omega
     have q1' : (q : Int) < (m : Int) := by omega
     clear hy
     by_cases hyx : y = xt
     ·have ST := Lib.hid (show trStep after T x = T by unfold trStep; rw [XT.out, LA.out, if_neg (fun h => h.2 (by rw [hyx]))])
      have d1 : (y == xt) = true := by simp [hyx]
      have d2 : (y != xt) = false := by simp [hyx]
      clear hyx hq h0
      go_wp2
      go_quiet (fail)
      go_wp2
      go_roundg (n - i - 1)
      case measure => have := JI.out; omega
      case rel => exact ⟨i + 1, T, by have := JI.out; omega, by go_num, by rw [TS.out, ST.out], by rw [MN.out]; exact own_kept OT.out (kept_dn (Kept.refl (fun _ => False) wr) _) (fun _ _ f => f), kept_dn KK.out _⟩
     ·have ST := Lib.hid (show trStep after T x = T ++ [xt] by unfold trStep; rw [XT.out, LA.out, if_pos ⟨ha, fun h => hyx (Option.some.inj h)⟩])
      have d1 : (y == xt) = false := by simp [hyx]
      have d2 : (y != xt) = true := by simp [hyx]
      clear hyx hq h0
      go_wp2
      go_quiet (fail)
      go_wp2_with (at_builtin; refine stopH ?_)
      intro _
      refine wpList_append_own _ rfl _ _ 55 rfl w2.heap.size 3 i3 _ 1 8 Try.underlying55 hi3 z3' s3 b3 rfl (by decide) _ m _ rfl (own_kept OT.out ((kept_dn (Kept.refl (fun _ => False) wr) _).alloc _) (fun _ _ f => f)) ⟨wr.heap.size, 0, none⟩ 1 1 [.int .i64 xt] rfl rfl (World.news_of_block (heap_alloc_new _ _)) ?qa ?qb ?qc ?qd ?_
      case qa => intro u hu; simp at hu; subst hu; rfl
      case qb => unfold maxLen; omega
      case qc => omega
      case qd => have h1 := KK.out.size; simp; omega
      intro v8 w8 own8 hg8 hn8
      have K8 := Lib.hid ((((kept_dn KK.out _).alloc (Obj.cells #[.int .i64 xt] 3)).grown hg8 (fun q hq hlt => by have h1 := own_from OT.out hq; omega)))
      have O8 := Lib.hid own8
      obtain ⟨ao8, cap8, rfl⟩ := own_slice own8
      clear own8 hg8 hn8
      go_wp2
      go_roundg (n - i - 1)
      case measure => have := JI.out; omega
      case rel => exact ⟨i + 1, T ++ [xt], by have := JI.out; omega, by go_num, by rw [TS.out, ST.out], by rw [List.length_append, MN.out, intsV_snoc]; exact O8.out, K8.out⟩
   ·have ST := Lib.hid (show trStep after T x = T by unfold trStep; rw [XT.out, if_neg (fun h => ha h.1)])
    go_wp2
    have d0 : decide (after < xt) = false := decide_eq_false (by omega)
    have d9 : ¬ after < xt := by omega
    go_quiet (fail)
    go_wp2
    go_roundg (n - i - 1)
    case measure => have := JI.out; omega
    case rel => exact ⟨i + 1, T, by have := JI.out; omega, by go_num, by rw [TS.out, ST.out], by rw [MN.out]; exact own_kept OT.out (kept_dn (Kept.refl (fun _ => False) wr) _) (fun _ _ f => f), kept_dn KK.out _⟩
  ·have i1 : ¬ (i : Int) < (n : Int) := by omega
   have ei : RR.take i = RR := List.take_of_length_le (by rw [LN.out]; omega)
   have e := HT.out
   rw [ei] at e
   go_wp2
   go_ret
   exact ⟨_, rfl, by rw [← e, MN.out]; exact own_low OT.out K2.out.size, keptFF K2.out KK.out⟩
end Go.Proofs.Ytibakmchgppndaa
/- slices.Compact at numbers. -/
namespace Go.Proofs.Ytibakmchgppndaa
open Go.RowKit

def dStep (out : List Int) (t : Int) : List Int := if out.getLast? = some t then out else out ++ [t]
def dedI (T : List Int) : List Int := T.foldl dStep []
theorem dedI_snoc (T : List Int) (x : Int) : dedI (T ++ [x]) = dStep (dedI T) x := by simp [dedI]
theorem dStep_last (out : List Int) (x : Int) : (dStep out x).getLast? = some x := by
 unfold dStep
 split
 ·assumption
 ·simp
theorem dedI_last (T : List Int) (x : Int) : (dedI (T ++ [x])).getLast? = some x := by rw [dedI_snoc]; exact dStep_last _ _
theorem itake_snoc {T : List Int} {i : Nat} {x : Int} (h : T[i]? = some x) : T.take (i + 1) = T.take i ++ [x] := by rw [List.take_add_one, h]; rfl
theorem dedI_same {T : List Int} {q : Nat} {x : Int} (h1 : T[q]? = some x) (h2 : T[q + 1]? = some x) : dedI (T.take (q + 2)) = dedI (T.take (q + 1)) := by
 rw [itake_snoc h2, dedI_snoc]
 have : (dedI (T.take (q + 1))).getLast? = some x := by rw [itake_snoc h1]; exact dedI_last _ _
 unfold dStep
 rw [if_pos this]
theorem dedI_other {T : List Int} {q : Nat} {x y : Int} (h1 : T[q]? = some y) (h2 : T[q + 1]? = some x) (hne : ¬ x = y) : dedI (T.take (q + 2)) = dedI (T.take (q + 1)) ++ [x] := by
 rw [itake_snoc h2, dedI_snoc]
 have : (dedI (T.take (q + 1))).getLast? = some y := by rw [itake_snoc h1]; exact dedI_last _ _
 unfold dStep
 rw [this, if_neg (fun e => hne (Option.some.inj e).symm)]
/-- A list of numbers, as it lies. -/
def ReadsI (w : World) (v : Value) (T : List Int) : Prop := ∃ ao cap, v = .slice ao T.length cap ∧ T.length ≤ cap ∧ (T = [] ∨ ∃ g o, ao = some ⟨g, o, none⟩ ∧ ∀ j x, T[j]? = some x → w.cell? ⟨g, o + j, none⟩ = some (.int .i64 x))
theorem ReadsI.keptF {w w' : World} {v : Value} {T : List Int} (h : ReadsI w v T) (hK : Kept (fun _ => False) w w') : ReadsI w' v T := by
 obtain ⟨ao, cap, rfl, hc, h⟩ := h
 refine ⟨ao, cap, rfl, hc, ?_⟩
 rcases h with h | ⟨g, o, rfl, h⟩
 ·exact .inl h
 ·exact .inr ⟨g, o, rfl, fun j x hx => hK.cell (h j x hx) (fun f => f)⟩
theorem ReadsI.of_row {w : World} {base : Nat} {v : Value} {T : List Int} (h : w.ownsRow base 3 1 v T.length (intsV T)) : ReadsI w v T := by
 rcases row_form h with ⟨rfl, h0⟩ | ⟨g, c, rfl, hle, _, _, _⟩
 ·exact ⟨none, 0, by rw [h0], by omega, .inl (List.eq_nil_of_length_eq_zero h0)⟩
 ·exact ⟨_, c, rfl, hle, .inr ⟨g, 0, rfl, fun j x hx => by rw [Nat.zero_add]; exact own_int h hx⟩⟩
theorem intsV_set (T : List Int) (k : Nat) (x : Int) : (intsV T).set k (.int .i64 x) = intsV (T.set k x) := by simp [intsV, List.map_set]
theorem zeroV3 (w : World) : (zeroValue 3).run Try.prog w = .ok (.int .i64 0) w := by kernel_rfl
theorem clear_ints (w : World) {base g n cap : Nat} {T : List Int} (k : Nat) (ho : w.ownsRow base 3 1 (.slice (some ⟨g, 0, none⟩) n cap) n (intsV T)) (hl : T.length = n) (hk : k < n) :
  ∃ vs : List Value, ∀ (ty : TypeId) (c : Nat), (Builtin.clear_ #[55] ty #[.slice (some ⟨g, k, none⟩) (n - k) c]).run Try.prog w = .ok (.tuple #[]) (w.setCells g k vs) := by
 refine ⟨(Builtin.zeroCells #[.int .i64 0] (n - k)).toList, fun ty c => ?_⟩
 have hlen : (Builtin.zeroCells #[Value.int .i64 0] (n - k)).toList.length = n - k := by simp [Builtin.zeroCells]
 have hst := run_storeCells_cells (P := Try.prog) g k (Builtin.zeroCells #[.int .i64 0] (n - k)).toList 0 w
  (fun j hj => by
   rw [hlen] at hj
   have hi : k + j < (intsV T).length := by rw [intsV_len]; omega
   have := ho.cells (g := g) rfl _ _ (List.getElem?_eq_getElem hi)
   rw [add_mid, Nat.zero_add] at this
   rw [Nat.add_zero, this]; rfl)
  (fun j hj => by rw [Nat.add_zero]; exact ho.frozenAt _)
  (fun v hv => by
   simp [Builtin.zeroCells] at hv
   obtain ⟨i, hi, rfl⟩ := hv
   rw [Nat.mod_one]
   rfl)
 rw [Nat.add_zero] at hst
 obtain ⟨m, hm⟩ : ∃ m, n - k = m + 1 := ⟨n - k - 1, by omega⟩
 rw [hm] at hst ⊢
 have hz := zeroV3
 simp [Builtin.clear_, run_underlying Try.underlying55, hz, hst, Value.cells]
set_option maxHeartbeats 16000000 in
set_option maxRecDepth 100000 in
theorem comp_all {w : World} {base : Nat} {v : Value} {T : List Int} (ho : w.ownsRow base 3 1 v T.length (intsV T)) (hl : T.length ≤ 1000000) :
  Calls Try.prog 42 #[v] w fun e w' => ∃ v', e = .returned v' ∧ ReadsI w' v' (dedI T) ∧ Kept (fun k => v.ownBlock = some k) w w' := by
 have HO := Lib.hid ho
 by_cases h2 : T.length < 2
 ·have hd : dedI T = T := by
   rcases T with _ | ⟨x, _ | ⟨y, r⟩⟩
   ·rfl
   ·rfl
   ·simp at h2
    omega
  have DD := Lib.hid hd
  obtain ⟨a, c, rfl⟩ := own_slice ho
  have i0 : (T.length : Int) < 2 := by omega
  clear ho hd
  go_enter Try.func42, Try.ntmps42
  go_wp2
  go_ret
  exact ⟨_, rfl, by rw [DD.out]; exact ReadsI.of_row HO.out, Kept.refl _ _⟩
 ·obtain ⟨n, hn⟩ : ∃ n, T.length = n := ⟨_, rfl⟩
  have LN := Lib.hid hn
  rw [hn] at HO ho hl h2
  obtain ⟨g, cap, rfl, hcap⟩ : ∃ g c, v = .slice (some ⟨g, 0, none⟩) n c ∧ n ≤ c := by
   rcases row_form ho with ⟨_, h0⟩ | ⟨g, c, e, hle, _⟩
   ·omega
   ·exact ⟨g, c, e, hle⟩
  have i0 : ¬ (n : Int) < 2 := by omega
  clear ho hn
  go_enter Try.func42, Try.ntmps42
  go_wp2
  go_loopg [3, 4, 5] (n - 1) (fun gh s _ _ wr => ∃ p : Nat, p + gh = n ∧ 1 ≤ p ∧ s = .int .i64 p ∧ dedI (T.take p) = T.take p ∧ Kept (fun _ => False) w wr)
  case atStart =>
   obtain ⟨x, hx⟩ : ∃ x, T[0]? = some x := ⟨_, List.getElem?_eq_getElem (by rw [LN.out]; omega)⟩
   exact ⟨1, by omega, Nat.le_refl _, by go_num, by rw [show (1 : Nat) = 0 + 1 from rfl, itake_snoc hx]; simp [dedI, dStep], Kept.refl _ _⟩
  case round =>
   obtain ⟨p, jp, hp1, rfl, hdd, kk⟩ := hrel
   have JP := Lib.hid jp; have DD := Lib.hid hdd; have KK := Lib.hid kk
   have O1 := Lib.hid (own_kept HO.out kk (fun _ _ f => f))
   have hpn : p ≤ n := by omega
   clear jp hdd kk
   by_cases hlt : p < n
   ·obtain ⟨q, hq⟩ : ∃ q, p = q + 1 := ⟨p - 1, by omega⟩
    obtain ⟨x, hx⟩ : ∃ x, T[p]? = some x := ⟨_, List.getElem?_eq_getElem (by rw [LN.out]; exact hlt)⟩
    obtain ⟨y, hy⟩ : ∃ y, T[q]? = some y := ⟨_, List.getElem?_eq_getElem (by rw [LN.out]; omega)⟩
    have c1 := own_int O1.out hx
    have c0 := own_int O1.out hy
    have i1 : (0 : Int) ≤ (p : Int) := by omega
    have i2 : (p : Int) < (n : Int) := by omega
    have i3 : (0 : Int) ≤ (q : Int) := by omega
    have i4 : (q : Int) < (n : Int) := by omega
    have i5 : (p : Int) ≤ 1000000 := by omega
    have e3 : IntKind.i64.wrap ((p : Int) - 1) = (q : Int) := by rw [show (p : Int) - 1 = (q : Int) by omega]; exact IntWalk.i64_in _ (by omega)
    have hx2 : T[q + 1]? = some x := by rw [← hq]; exact hx
    by_cases hxy : x = y
    ·have DS := Lib.hid (show dedI (T.take (p + 1)) = T.take p by rw [hq, dedI_same (by rw [hy, hxy]) hx2, ← hq]; exact DD.out)
     have d1 : (x == y) = true := by simp [hxy]
     have i6 : (p : Int) ≤ (n : Int) := by omega
     have i7 : (p : Int) ≤ (cap : Int) := by omega
     clear hx hx2 hy hxy hq
     go_wp2
     go_quiet (fail)
     go_wp2
     obtain ⟨d, hd⟩ : ∃ d, n - p = d := ⟨_, rfl⟩
     obtain ⟨cd, hcd⟩ : ∃ d, cap - p = d := ⟨_, rfl⟩
     have HD := Lib.hid hd
     have hdn : d ≤ n := by omega
     have hd1 : 1 ≤ d := by omega
     rw [hd, hcd]
     have K6 := Lib.hid (kept_dn KK.out nq)
     clear hd hcd c0 c1 d1 e3
     go_loopg [3, 5] (n - p) (fun gh s t wr => ∃ (k k2 : Nat) (L1 : List Int), p + k2 + gh = n + 1 ∧ 1 ≤ k2 ∧ k < p + k2 ∧ k2 ≤ d ∧ s = .int .i64 k ∧ t = .int .i64 k2 ∧ L1.length = n ∧ wr.ownsRow base 3 1 (.slice (some ⟨g, 0, none⟩) n cap) n (intsV L1) ∧ (∀ m, k ≤ m → L1[m]? = T[m]?) ∧ L1.take k = dedI (T.take (p + k2)) ∧ Kept (fun q => q = g) w wr)
     case atStart => exact ⟨p, 1, T, by have := HD.out; omega, Nat.le_refl _, by omega, hd1, rfl, by go_num, LN.out, own_kept HO.out K6.out (fun _ _ f => f), fun _ _ => rfl, DS.out.symm, K6.out.mono (fun _ _ f => f.elim)⟩
     case round =>
      obtain ⟨k, k2, L1, hg, hk2, hkk, hk2d, rfl, rfl, hl1, ho1, hhi, htk, k1⟩ := hrel
      have HG2 := Lib.hid hg; have HO2 := Lib.hid ho1; have HI := Lib.hid hhi; have TK := Lib.hid htk; have K1 := Lib.hid k1; have HL1 := Lib.hid hl1; have KK2 := Lib.hid hkk
      have hk2n : k2 ≤ n := by omega
      have hkn : k ≤ n := by have := HD.out; omega
      clear hg ho1 hhi htk k1 hkk hl1
      by_cases hlt2 : k2 < d
      ·have f2 : (k2 : Int) < (d : Int) := by omega
       obtain ⟨q2, hq2⟩ : ∃ q, k2 = q + 1 := ⟨k2 - 1, by omega⟩
       have f3 : IntKind.i64.wrap ((k2 : Int) - 1) = (q2 : Int) := by rw [show (k2 : Int) - 1 = (q2 : Int) by omega]; exact IntWalk.i64_in _ (by omega)
       obtain ⟨u, hu⟩ : ∃ x, T[p + k2]? = some x := ⟨_, List.getElem?_eq_getElem (by rw [LN.out]; have := HD.out; omega)⟩
       obtain ⟨z, hz⟩ : ∃ x, T[p + q2]? = some x := ⟨_, List.getElem?_eq_getElem (by rw [LN.out]; have := HD.out; omega)⟩
       have ru := own_int HO2.out (show L1[p + k2]? = some u by rw [HI.out _ (by have := KK2.out; omega)]; exact hu)
       have rz := own_int HO2.out (show L1[p + q2]? = some z by rw [HI.out _ (by have := KK2.out; omega)]; exact hz)
       have hu2 : T[p + q2 + 1]? = some u := by rw [show p + q2 + 1 = p + k2 by omega]; exact hu
       have HU := Lib.hid hu
       have f4 : (0 : Int) ≤ (k2 : Int) := by omega
       have f5 : (k2 : Int) ≤ 1000000 := by omega
       have f6 : (0 : Int) ≤ (q2 : Int) := by omega
       have f7 : (q2 : Int) < (d : Int) := by omega
       by_cases huz : u = z
       ·have DE := Lib.hid (show dedI (T.take (p + (k2 + 1))) = dedI (T.take (p + k2)) by
         have e := dedI_same (by rw [hz, huz]) hu2
         rw [show p + q2 + 2 = p + (k2 + 1) by omega, show p + q2 + 1 = p + k2 by omega] at e
         exact e)
        have d1 : (u == z) = true := by simp [huz]
        have d2 : (u != z) = false := by simp [huz]
        clear hu hu2 hz huz hq2
        go_wp2
        go_quiet (fail)
        go_wp2
        go_roundg (n - (p + k2))
        case measure => have := HG2.out; have := HD.out; omega
        case rel => exact ⟨k, k2 + 1, L1, by have := HD.out; omega, by omega, by have := KK2.out; omega, by omega, rfl, by go_num, HL1.out, own_kept HO2.out (kept_dn (Kept.refl (fun _ => False) wr) nq) (fun _ _ f => f), HI.out, by rw [TK.out]; exact DE.out.symm, kept_dn K1.out nq⟩
       ·have DE := Lib.hid (show dedI (T.take (p + (k2 + 1))) = dedI (T.take (p + k2)) ++ [u] by
         have e := dedI_other hz hu2 huz
         rw [show p + q2 + 2 = p + (k2 + 1) by omega, show p + q2 + 1 = p + k2 by omega] at e
         exact e)
        have d1 : (u == z) = false := by simp [huz]
        have d2 : (u != z) = true := by simp [huz]
        have hkl : k < L1.length := by rw [HL1.out]; have := KK2.out; have := HD.out; omega
        obtain ⟨l0, hl0⟩ : ∃ x, L1[k]? = some x := ⟨_, List.getElem?_eq_getElem hkl⟩
        have rk := own_int HO2.out hl0
        have fk : wr.frozen? ⟨g, k, none⟩ = false := HO2.out.frozenAt _
        have ST := Lib.hid ((own_kept HO2.out (kept_dn (Kept.refl (fun _ => False) wr) 0) (fun _ _ f => f)))
        have f8 : (0 : Int) ≤ (k : Int) := by omega
        have f9 : (k : Int) < (n : Int) := by have := HL1.out; omega
        have f10 : (k : Int) ≤ 1000000 := by omega
        have TSN := Lib.hid (show (L1.set k u).take (k + 1) = L1.take k ++ [u] by
         rw [itake_snoc (by rw [List.getElem?_set_self hkl] : (L1.set k u)[k]? = some u), List.take_set_of_le (Nat.le_refl _)])
        clear hu hu2 hz huz hq2 hl0 hkl
        go_wp2
        go_quiet (fail)
        go_wp2
        go_roundg (n - (p + k2))
        case measure => have := HG2.out; have := HD.out; omega
        case rel =>
         have O9 := ((own_kept HO2.out (kept_dn (Kept.refl (fun _ => False) wr) nq) (fun _ _ f => f)).stored k (.int .i64 u)).1
         rw [intsV_set] at O9
         exact ⟨k + 1, k2 + 1, L1.set k u, by have := HD.out; omega, by omega, by have := KK2.out; omega, by omega, by go_num, by go_num, by rw [List.length_set]; exact HL1.out, O9, fun m hm => by rw [List.getElem?_set_ne (by omega)]; exact HI.out m (by omega), by rw [TSN.out, TK.out]; exact DE.out.symm, (kept_dn K1.out nq).setCell (fun _ => rfl) _⟩
      ·have f2 : ¬ (k2 : Int) < (d : Int) := by omega
       obtain ⟨vs, hcl0⟩ := clear_ints wr k HO2.out HL1.out (by have := KK2.out; have := HD.out; omega)
       obtain ⟨W3, hW3⟩ : ∃ W3, wr.setCells g k vs = W3 := ⟨_, rfl⟩
       have hcl : ∀ ty, (Builtin.clear_ #[55] ty #[.slice (some ⟨g, k, none⟩) (n - k) (cap - k)]).run Try.prog wr = .ok (.tuple #[]) W3 := fun ty => by rw [← hW3]; exact hcl0 ty _
       have OS := own_setL vs k HO2.out
       have HF := Lib.hid (show ReadsI W3 (.slice (some ⟨g, 0, none⟩) (dedI T).length cap) (dedI T) ∧ (dedI T).length = k from by
        have hend : dedI T = L1.take k := by
         rw [TK.out, List.take_of_length_le (by rw [LN.out]; have := HD.out; omega)]
        rw [hend, ← hW3]
        refine ⟨⟨_, cap, rfl, by rw [List.length_take]; omega, .inr ⟨g, 0, rfl, fun j x hx => ?_⟩⟩, by rw [List.length_take, HL1.out]; omega⟩
        have hjk : j < k := by have := (List.getElem?_eq_some_iff.1 hx).1; rw [List.length_take] at this; omega
        rw [List.getElem?_take_of_lt hjk] at hx
        have h3 := OS.cells (g := g) rfl j (.int .i64 x) (by rw [setL_low _ _ _ _ hjk]; exact intsV_at hx)
        rwa [add_mid] at h3)
       have KF := Lib.hid (show Kept (fun q => q = g) w W3 by rw [← hW3]; exact Kept.setCells (S := fun q => q = g) (fun _ => rfl) vs k K1.out)
       have f8 : (k : Int) < (n : Int) := by have := KK2.out; have := HD.out; omega
       have f9 : (k : Int) ≤ (n : Int) := by omega
       have f10 : (k : Int) ≤ (cap : Int) := by omega
       have f11 : k < cap := by omega
       have f12 : (k : Int) < (cap : Int) := by omega
       clear hcl0 hW3 OS
       go_wp2
       go_ret
       have h := HF.out.1
       rw [HF.out.2] at h
       exact ⟨_, rfl, h, KF.out.mono (fun q _ e => by rw [e]; rfl)⟩
    ·have DO := Lib.hid (show dedI (T.take (p + 1)) = T.take (p + 1) by
      have e := dedI_other hy hx2 hxy
      rw [show q + 2 = p + 1 by omega, show q + 1 = p by omega, DD.out] at e
      rw [e, itake_snoc hx])
     have d1 : (x == y) = false := by simp [hxy]
     clear hx hx2 hy hxy hq
     go_wp2
     go_quiet (fail)
     go_wp2
     go_roundg (n - p - 1)
     case measure => have := JP.out; omega
     case rel => exact ⟨p + 1, by have := JP.out; omega, by omega, by go_num, DO.out, kept_dn KK.out _⟩
   ·have i1 : ¬ (p : Int) < (n : Int) := by omega
    have e : T.take p = T := List.take_of_length_le (by rw [LN.out]; omega)
    have hd : dedI T = T := by have := DD.out; rwa [e] at this
    have HD := Lib.hid hd
    clear hd e
    go_wp2
    go_ret
    exact ⟨_, rfl, by rw [HD.out]; exact ReadsI.of_row (T := T) (by rw [LN.out]; exact O1.out), KK.out.mono (fun _ _ f => f.elim)⟩
end Go.Proofs.Ytibakmchgppndaa
/- Find, both: the traces that a query asks for. -/
namespace Go.Proofs.Ytibakmchgppndaa
open Go.RowKit

structure Qry where
 se : ByteArray
 ho : ByteArray
 fr : Int
 tt : Int
 li : Int
def qOk (q : Qry) : Bool := nameB q.se && (nameB q.ho && (decide (1 ≤ q.li) && (decide (q.li ≤ 64) && (decide (0 ≤ q.fr) && decide (q.tt ≤ 1073741824)))))
def matchB (q : Qry) (x : Spn) : Bool := decide (x.se.toList = q.se.toList) && (decide (x.ho.toList = q.ho.toList) && (decide (q.fr ≤ x.st) && decide (x.st ≤ q.tt)))
def hitT (q : Qry) (L : List Spn) : List Int := (L.filter (matchB q)).map (fun x => x.tr)
theorem hit_yes {q : Qry} {x : Spn} (h : matchB q x = true) (L : List Spn) : hitT q (L ++ [x]) = hitT q L ++ [x.tr] := by unfold hitT; simp [h]
theorem hit_no {q : Qry} {x : Spn} (h : matchB q x = false) (L : List Spn) : hitT q (L ++ [x]) = hitT q L := by unfold hitT; simp [h]
theorem hit_len (q : Qry) (L : List Spn) : (hitT q L).length ≤ L.length := by unfold hitT; rw [List.length_map]; exact List.length_filter_le _ _
theorem dStep_pre (out : List Int) (x : Int) : ∃ e, dStep out x = out ++ e := by
 unfold dStep
 split
 ·exact ⟨[], by simp⟩
 ·exact ⟨[x], rfl⟩
theorem ded_pre_aux : ∀ (B out : List Int), ∃ e, B.foldl dStep out = out ++ e
 | [], out => ⟨[], by simp⟩
 | x :: t, out => by
  obtain ⟨e1, h1⟩ := dStep_pre out x
  obtain ⟨e2, h2⟩ := ded_pre_aux t (dStep out x)
  exact ⟨e1 ++ e2, by rw [List.foldl_cons, h2, h1, List.append_assoc]⟩
theorem ded_pre (A B : List Int) : ∃ e, dedI (A ++ B) = dedI A ++ e := by
 unfold dedI
 rw [List.foldl_append]
 exact ded_pre_aux B _
theorem hit_pre (q : Qry) (L : List Spn) (i : Nat) : ∃ e, dedI (hitT q L) = dedI (hitT q (L.take i)) ++ e := by
 have : hitT q L = hitT q (L.take i) ++ hitT q (L.drop i) := by
  unfold hitT
  rw [← List.map_append, ← List.filter_append, List.take_append_drop]
 rw [this]
 exact ded_pre _ _
set_option maxHeartbeats 8000000 in
set_option maxRecDepth 100000 in
theorem find_bad {w : World} {p b : Nat} {M : List Spn} (q : Qry) (now : Int) (hb : qOk q = false) (s1 : q.se.size ≤ 9223372036854775807) (s2 : q.ho.size ≤ 9223372036854775807) (h : ModelAt w p b M) : Calls Try.prog 20 #[.pointer (some ⟨p, 0, none⟩), .agg #[.string q.se, .string q.ho, .int .i64 q.fr, .int .i64 q.tt, .int .i64 q.li], .int .i64 now] w fun e w' => e = .returned (.tuple #[.slice none 0 0, .int .i64 2]) ∧ Kept (fun _ => False) w w' := by
 obtain ⟨W1, hW1⟩ : ∃ W, w.alloc (.cells #[.string q.se, .string q.ho, .int .i64 q.fr, .int .i64 q.tt, .int .i64 q.li] 40) = W := ⟨_, rfl⟩
 have k1 : Kept (fun _ => False) w W1 := by rw [← hW1]; exact (Kept.refl _ w).alloc _
 obtain ⟨qb, hqb⟩ : ∃ b, w.heap.size = b := ⟨_, rfl⟩
 have Q0 := Lib.hid (show ∀ W, Kept (fun _ => False) W1 W → W.cell? ⟨qb, 0, none⟩ = some (.string q.se) ∧ W.cell? ⟨qb, 1, none⟩ = some (.string q.ho) ∧ W.cell? ⟨qb, 2, none⟩ = some (.int .i64 q.fr) ∧ W.cell? ⟨qb, 3, none⟩ = some (.int .i64 q.tt) ∧ W.cell? ⟨qb, 4, none⟩ = some (.int .i64 q.li) from fun W K => ⟨K.cell (by rw [← hW1, ← hqb]; simp) (fun f => f), K.cell (by rw [← hW1, ← hqb]; simp) (fun f => f), K.cell (by rw [← hW1, ← hqb]; simp) (fun f => f), K.cell (by rw [← hW1, ← hqb]; simp) (fun f => f), K.cell (by rw [← hW1, ← hqb]; simp) (fun f => f)⟩)
 have K1 := Lib.hid k1
 have C0 := Lib.hid (name_all q.se s1)
 have C1 := Lib.hid (name_all q.ho s2)
 unfold qOk at hb
 obtain ⟨b0, h0⟩ : ∃ c, nameB q.se = c := ⟨_, rfl⟩
 obtain ⟨b1, h1⟩ : ∃ c, nameB q.ho = c := ⟨_, rfl⟩
 rw [h0] at C0 hb
 rw [h1] at C1 hb
 have HB := Lib.hid hb
 have N := Lib.hid (none_not p b _ (k1.cell h.cell (fun f => f)))
 clear h0 h1 hb k1
 go_enter Try.func20, Try.ntmps20
 go_wp2_with fail
 refine N.out.mono ?_
 rintro e w4 ⟨rfl, rfl⟩
 have q00 := (Q0.out _ (Kept.refl _ W1)).1
 go_wp2_with fail
 refine (C0.out _).mono ?_
 rintro e w2 ⟨rfl, k2⟩
 have K2 := Lib.hid (keptFF K1.out k2)
 have KQ2 := Lib.hid k2
 clear k2
 clear hW1 hqb
 cases b0 with
 | false =>
  go_wp2
  go_ret2
  exact ⟨rfl, K2.out⟩
 | true =>
  obtain ⟨_, q1, q2, q3, q4⟩ := Q0.out _ KQ2.out
  go_wp2_with fail
  refine (C1.out _).mono ?_
  rintro e w3 ⟨rfl, k3⟩
  have K3 := Lib.hid (keptFF K2.out k3)
  have KQ3 := Lib.hid (keptFF KQ2.out k3)
  clear k3
  obtain ⟨_, q1, q2, q3, q4⟩ := Q0.out _ KQ3.out
  cases b1 with
  | false =>
   go_wp2
   go_ret2
   exact ⟨rfl, K3.out⟩
  | true =>
   by_cases c0 : q.li < 1
   ·go_wp2
    go_ret2
    exact ⟨rfl, K3.out⟩
   ·by_cases c1 : 64 < q.li
    ·go_wp2
     go_ret2
     exact ⟨rfl, K3.out⟩
    ·by_cases c2 : q.fr < 0
     ·go_wp2
      go_ret2
      exact ⟨rfl, K3.out⟩
     ·by_cases c3 : 1073741824 < q.tt
      ·go_wp2
       go_ret2
       exact ⟨rfl, K3.out⟩
      ·have h := HB.out
       simp at h
       omega
set_option maxHeartbeats 8000000 in
set_option maxRecDepth 100000 in
theorem rfind_bad {w : World} {mp : Nat} (q : Qry) (now : Int) (hb : qOk q = false) (s1 : q.se.size ≤ 9223372036854775807) (s2 : q.ho.size ≤ 9223372036854775807) : Calls Try.prog 21 #[.pointer (some ⟨mp, 0, none⟩), .agg #[.string q.se, .string q.ho, .int .i64 q.fr, .int .i64 q.tt, .int .i64 q.li], .int .i64 now] w fun e w' => e = .returned (.tuple #[.slice none 0 0, .int .i64 2]) ∧ Kept (fun _ => False) w w' := by
 obtain ⟨W1, hW1⟩ : ∃ W, w.alloc (.cells #[.string q.se, .string q.ho, .int .i64 q.fr, .int .i64 q.tt, .int .i64 q.li] 40) = W := ⟨_, rfl⟩
 have k1 : Kept (fun _ => False) w W1 := by rw [← hW1]; exact (Kept.refl _ w).alloc _
 obtain ⟨qb, hqb⟩ : ∃ b, w.heap.size = b := ⟨_, rfl⟩
 have Q0 := Lib.hid (show ∀ W, Kept (fun _ => False) W1 W → W.cell? ⟨qb, 0, none⟩ = some (.string q.se) ∧ W.cell? ⟨qb, 1, none⟩ = some (.string q.ho) ∧ W.cell? ⟨qb, 2, none⟩ = some (.int .i64 q.fr) ∧ W.cell? ⟨qb, 3, none⟩ = some (.int .i64 q.tt) ∧ W.cell? ⟨qb, 4, none⟩ = some (.int .i64 q.li) from fun W K => ⟨K.cell (by rw [← hW1, ← hqb]; simp) (fun f => f), K.cell (by rw [← hW1, ← hqb]; simp) (fun f => f), K.cell (by rw [← hW1, ← hqb]; simp) (fun f => f), K.cell (by rw [← hW1, ← hqb]; simp) (fun f => f), K.cell (by rw [← hW1, ← hqb]; simp) (fun f => f)⟩)
 have K1 := Lib.hid k1
 have C0 := Lib.hid (rname_all q.se s1)
 have C1 := Lib.hid (rname_all q.ho s2)
 unfold qOk at hb
 obtain ⟨b0, h0⟩ : ∃ c, nameB q.se = c := ⟨_, rfl⟩
 obtain ⟨b1, h1⟩ : ∃ c, nameB q.ho = c := ⟨_, rfl⟩
 rw [h0] at C0 hb
 rw [h1] at C1 hb
 have HB := Lib.hid hb
 have q00 := (Q0.out _ (Kept.refl _ W1)).1
 clear h0 h1 hb k1
 go_enter Try.func21, Try.ntmps21
 go_wp2_with fail
 skip
 refine (C0.out _).mono ?_
 rintro e w2 ⟨rfl, hw⟩
 have K2 := Lib.hid (show Kept (fun _ => False) w w2 by rw [← hw]; exact K1.out)
 have KQ2 := Lib.hid (show Kept (fun _ => False) W1 w2 by rw [← hw]; exact Kept.refl _ _)
 clear hw
 clear hW1 hqb
 cases b0 with
 | false =>
  go_wp2
  go_ret2
  exact ⟨rfl, K2.out⟩
 | true =>
  obtain ⟨_, q1, q2, q3, q4⟩ := Q0.out _ KQ2.out
  go_wp2_with fail
  refine (C1.out _).mono ?_
  rintro e w3 ⟨rfl, rfl⟩
  have K3 := K2
  have KQ3 := KQ2
  obtain ⟨_, q1, q2, q3, q4⟩ := Q0.out _ KQ3.out
  cases b1 with
  | false =>
   go_wp2
   go_ret2
   exact ⟨rfl, K3.out⟩
  | true =>
   by_cases c0 : q.li < 1
   ·go_wp2
    go_ret2
    exact ⟨rfl, K3.out⟩
   ·by_cases c1 : 64 < q.li
    ·go_wp2
     go_ret2
     exact ⟨rfl, K3.out⟩
    ·by_cases c2 : q.fr < 0
     ·go_wp2
      go_ret2
      exact ⟨rfl, K3.out⟩
     ·by_cases c3 : 1073741824 < q.tt
      ·go_wp2
       go_ret2
       exact ⟨rfl, K3.out⟩
      ·have h := HB.out
       simp at h
       omega
end Go.Proofs.Ytibakmchgppndaa
/- (*Model).Find: the traces that a query asks for. -/
namespace Go.Proofs.Ytibakmchgppndaa
open Go.RowKit

theorem qOk_parts {q : Qry} (h : qOk q = true) : nameB q.se = true ∧ nameB q.ho = true ∧ ¬ q.li < 1 ∧ ¬ 64 < q.li ∧ ¬ q.fr < 0 ∧ ¬ 1073741824 < q.tt := by
 unfold qOk at h
 simp only [Bool.and_eq_true, decide_eq_true_eq] at h
 obtain ⟨a, b, c, d, e, f⟩ := h
 exact ⟨a, b, by omega, by omega, by omega, by omega⟩
theorem ReadsI.takeN {w : World} {a : Option Addr} {k c : Nat} {T : List Int} (h : ReadsI w (.slice a k c) T) (li : Int) (h0 : 0 ≤ li) : ReadsI w (.slice a (min (k : Int) li).toNat c) (T.take li.toNat) := by
 obtain ⟨ao, cap, e, hc, h⟩ := h
 injection e with e1 e2 e3
 subst e1; subst e3
 refine ⟨a, c, by rw [List.length_take, e2, show (min (T.length : Int) li).toNat = min li.toNat T.length by omega], by rw [List.length_take]; omega, ?_⟩
 rcases h with rfl | ⟨g, o, rfl, hx⟩
 ·exact .inl (by simp)
 ·refine .inr ⟨g, o, rfl, fun j x hj => hx j x ?_⟩
  rw [List.getElem?_take] at hj
  split at hj
  ·exact hj
  ·cases hj
set_option maxHeartbeats 16000000 in
set_option maxRecDepth 100000 in
theorem find_all {w : World} {p b : Nat} {M : List Spn} (q : Qry) (now : Int) (hb : qOk q = true) (s1 : q.se.size ≤ 9223372036854775807) (s2 : q.ho.size ≤ 9223372036854775807) (h1 : 0 ≤ now) (h2 : now ≤ 4294967296) (h : ModelAt w p b M) (hM : M.length ≤ 1000000) : Calls Try.prog 20 #[.pointer (some ⟨p, 0, none⟩), .agg #[.string q.se, .string q.ho, .int .i64 q.fr, .int .i64 q.tt, .int .i64 q.li], .int .i64 now] w fun e w' => ∃ v' R, e = .returned (.tuple #[v', .int .i64 0]) ∧ ReadsI w' v' ((dedI (hitT q R)).take q.li.toNat) ∧ R.Perm (liveF now M) ∧ SortedS R ∧ Kept (fun _ => False) w w' := by
 obtain ⟨i3, hi3, z3', s3, b3⟩ := info_parts inf3t

 obtain ⟨W1, hW1⟩ : ∃ W, w.alloc (.cells #[.string q.se, .string q.ho, .int .i64 q.fr, .int .i64 q.tt, .int .i64 q.li] 40) = W := ⟨_, rfl⟩
 have k1 : Kept (fun _ => False) w W1 := by rw [← hW1]; exact (Kept.refl _ w).alloc _
 obtain ⟨qb, hqb⟩ : ∃ b, w.heap.size = b := ⟨_, rfl⟩
 have Q0 := Lib.hid (show ∀ W, Kept (fun _ => False) W1 W → W.cell? ⟨qb, 0, none⟩ = some (.string q.se) ∧ W.cell? ⟨qb, 1, none⟩ = some (.string q.ho) ∧ W.cell? ⟨qb, 2, none⟩ = some (.int .i64 q.fr) ∧ W.cell? ⟨qb, 3, none⟩ = some (.int .i64 q.tt) ∧ W.cell? ⟨qb, 4, none⟩ = some (.int .i64 q.li) from fun W K => ⟨K.cell (by rw [← hW1, ← hqb]; simp) (fun f => f), K.cell (by rw [← hW1, ← hqb]; simp) (fun f => f), K.cell (by rw [← hW1, ← hqb]; simp) (fun f => f), K.cell (by rw [← hW1, ← hqb]; simp) (fun f => f), K.cell (by rw [← hW1, ← hqb]; simp) (fun f => f)⟩)
 have K1 := Lib.hid k1
 have C0 := Lib.hid (name_all q.se s1)
 have C1 := Lib.hid (name_all q.ho s2)
 obtain ⟨c00, c01, c0, c1, c2, c3⟩ := qOk_parts hb
 rw [c00] at C0
 rw [c01] at C1
 have HH := Lib.hid h
 have N := Lib.hid (none_not p b _ (k1.cell h.cell (fun f => f)))
 clear h hb k1 c00 c01
 go_enter Try.func20, Try.ntmps20
 go_wp2_with fail
 refine N.out.mono ?_
 rintro e w4 ⟨rfl, rfl⟩
 have q00 := (Q0.out _ (Kept.refl _ W1)).1
 go_wp2_with fail
 refine (C0.out _).mono ?_
 rintro e w2 ⟨rfl, k2⟩
 have K2 := Lib.hid (keptFF K1.out k2)
 have KQ2 := Lib.hid k2
 clear k2
 clear hW1 hqb
 obtain ⟨_, q1, q2, q3, q4⟩ := Q0.out _ KQ2.out
 go_wp2_with fail
 refine (C1.out _).mono ?_
 rintro e w3 ⟨rfl, k3⟩
 have K3 := Lib.hid (keptFF K2.out k3)
 have KQ3 := Lib.hid (keptFF KQ2.out k3)
 clear k3 q00 q1 q2 q3 q4
 obtain ⟨_, q1, q2, q3, q4⟩ := Q0.out _ KQ3.out
 have SP := Lib.hid (spans_row now h1 h2 (HH.out.keptF K3.out) (by omega : M.length ≤ 1000000000))
 go_wp2_with fail
 refine SP.out.mono ?_
 rintro e w4 ⟨k4, v4, R, rfl, o4, p4, s4⟩
 have K4 := Lib.hid (keptFF K3.out k4)
 have KQ4 := Lib.hid (keptFF KQ3.out k4)
 have PS := Lib.hid (And.intro p4 s4)
 have RL := Lib.hid (show R.length ≤ 1000000 by have e1 := p4.length_eq; have e2 := live_len now M; omega)
 obtain ⟨a2, cc2, rfl⟩ := own_slice o4
 have O4 := Lib.hid o4
 obtain ⟨n, hn⟩ : ∃ n, R.length = n := ⟨_, rfl⟩
 rw [hn] at RL
 have LN := Lib.hid hn
 have RLn := RL.out
 clear k4 o4 p4 s4 q1 q2 q3 q4
 rw [hn]
 clear hn
 go_wp2
 go_loopg [8, 49] n (fun gh s t wr => ∃ (i : Nat) (T : List Int), i + gh = n ∧ t = .int .i64 i ∧ T = hitT q (R.take i) ∧ wr.ownsRow w4.heap.size 3 1 s T.length (intsV T) ∧ Kept (fun _ => False) w4 wr)
 case atStart => exact ⟨0, [], by omega, rfl, rfl, World.ownsRow_nil _ _ _ _, Kept.refl _ _⟩
 case round =>
  obtain ⟨i, T, ji, rfl, hT, ot, kk⟩ := hrel
  have JI := Lib.hid ji; have HT := Lib.hid hT; have KK := Lib.hid kk
  obtain ⟨ao, co, rfl⟩ := own_slice ot
  obtain ⟨m, hm⟩ : ∃ m, T.length = m := ⟨_, rfl⟩
  rw [hm] at ot ⊢
  have OT := Lib.hid ot
  have MN := Lib.hid hm
  have i0 : (0 : Int) ≤ (i : Int) := by omega
  have hml : m ≤ 1000000 := by
   rw [← hm, hT]
   have a1 := hit_len q (R.take i)
   rw [List.length_take] at a1
   omega
  clear ji hT ot kk hm
  by_cases hin : i < n
  ·have i1 : (i : Int) < (n : Int) := by omega
   have i2 : (i : Int) ≤ 1000000 := by omega
   obtain ⟨x, hx⟩ : ∃ x, R[i]? = some x := ⟨_, List.getElem?_eq_getElem (by rw [LN.out]; exact hin)⟩
   obtain ⟨g, rfl, hcs⟩ : ∃ g, a2 = some ⟨g, 0, none⟩ ∧ ∀ j u, (cellsS R)[j]? = some u → w4.cell? ⟨g, j, none⟩ = some u := by
    rcases row_form O4.out with ⟨h1, h2⟩ | ⟨g, c, h1, _, _, _, hc2⟩
    ·have := LN.out; omega
    ·cases h1; exact ⟨g, rfl, hc2⟩
   have rx := ReadsS.at (o := 0) (fun j u hu => by rw [Nat.zero_add]; exact KK.out.cell (hcs j u hu) (fun f => f)) hx
   rw [Nat.zero_add] at rx
   obtain ⟨x0, x1, x2, x3, x4, x5, x6, x7⟩ := rx
   have TK := Lib.hid (rtake_snoc hx)
   have XM := Lib.hid (show matchB q x = (decide (x.se.toList = q.se.toList) && (decide (x.ho.toList = q.ho.toList) && (decide (q.fr ≤ x.st) && decide (x.st ≤ q.tt)))) from rfl)
   clear hcs hx
   obtain ⟨dt, did, dp, ds, dh, dst, dd, dn⟩ := x
   simp only at x0 x1 x2 x3 x4 x5 x6 x7 XM
   have K5 := Lib.hid (fun o => KK.out.alloc o)
   have qo0 := fun o => (Q0.out _ ((keptFF KQ4.out KK.out).alloc o)).1
   have qo1 := fun o => (Q0.out _ ((keptFF KQ4.out KK.out).alloc o)).2.1
   have qo2 := fun o => (Q0.out _ ((keptFF KQ4.out KK.out).alloc o)).2.2.1
   have qo3 := fun o => (Q0.out _ ((keptFF KQ4.out KK.out).alloc o)).2.2.2.1
   by_cases e0 : ds.toList = q.se.toList
   ·by_cases e1 : dh.toList = q.ho.toList
    ·by_cases e2 : q.fr ≤ dst
     ·by_cases e3 : dst ≤ q.tt
      ·have ST := Lib.hid (hit_yes (q := q) (x := ⟨dt, did, dp, ds, dh, dst, dd, dn⟩) (by rw [XM.out]; simp [e0, e1, e2, e3]) (R.take i))
       go_wp2_with (at_builtin; refine stopH ?_)
       intro _
       refine wpList_append_own _ rfl _ _ 55 rfl w4.heap.size 3 i3 _ 1 8 Try.underlying55 hi3 z3' s3 b3 rfl (by decide) _ m _ rfl (own_kept OT.out (((Kept.refl (fun _ => False) wr).alloc _).alloc _) (fun _ _ f => f)) ⟨wr.heap.size + 1, 0, none⟩ 1 1 [.int .i64 dt] rfl rfl (World.news_of_block (heap_second wr _ _)) ?qa ?qb ?qc ?qd ?_
       case qa => intro u hu; simp at hu; subst hu; rfl
       case qb => unfold maxLen; omega
       case qc => omega
       case qd => have h1 := KK.out.size; simp; omega
       intro v8 w8 own8 hg8 hn8
       have K8 := Lib.hid (((K5.out _).alloc (Obj.cells #[.int .i64 dt] 3)).grown hg8 (fun q hq hlt => by have h1 := own_from OT.out hq; omega))
       have O8 := Lib.hid own8
       obtain ⟨ao8, cap8, rfl⟩ := own_slice own8
       clear own8 hg8 hn8
       go_wp2
       go_roundg (n - i - 1)
       case measure => have := JI.out; omega
       case rel => exact ⟨i + 1, T ++ [dt], by have := JI.out; omega, by go_num, by rw [TK.out, ST.out, HT.out], by rw [List.length_append, MN.out, intsV_snoc]; exact O8.out, K8.out⟩
      ·have e4 : q.tt < dst := by omega
       have ST := Lib.hid (hit_no (q := q) (x := ⟨dt, did, dp, ds, dh, dst, dd, dn⟩) (by rw [XM.out]; simp [e3]) (R.take i))
       go_wp2
       go_roundg (n - i - 1)
       case measure => have := JI.out; omega
       case rel => exact ⟨i + 1, T, by have := JI.out; omega, by go_num, by rw [TK.out, ST.out]; exact HT.out, by rw [MN.out]; exact own_kept OT.out ((Kept.refl (fun _ => False) wr).alloc _) (fun _ _ f => f), K5.out _⟩
     ·have e4 : dst < q.fr := by omega
      have ST := Lib.hid (hit_no (q := q) (x := ⟨dt, did, dp, ds, dh, dst, dd, dn⟩) (by rw [XM.out]; simp [e2]) (R.take i))
      go_wp2
      go_roundg (n - i - 1)
      case measure => have := JI.out; omega
      case rel => exact ⟨i + 1, T, by have := JI.out; omega, by go_num, by rw [TK.out, ST.out]; exact HT.out, by rw [MN.out]; exact own_kept OT.out ((Kept.refl (fun _ => False) wr).alloc _) (fun _ _ f => f), K5.out _⟩
    ·skip
     have ST := Lib.hid (hit_no (q := q) (x := ⟨dt, did, dp, ds, dh, dst, dd, dn⟩) (by rw [XM.out]; simp [e1]) (R.take i))
     go_wp2
     go_roundg (n - i - 1)
     case measure => have := JI.out; omega
     case rel => exact ⟨i + 1, T, by have := JI.out; omega, by go_num, by rw [TK.out, ST.out]; exact HT.out, by rw [MN.out]; exact own_kept OT.out ((Kept.refl (fun _ => False) wr).alloc _) (fun _ _ f => f), K5.out _⟩
   ·skip
    have ST := Lib.hid (hit_no (q := q) (x := ⟨dt, did, dp, ds, dh, dst, dd, dn⟩) (by rw [XM.out]; simp [e0]) (R.take i))
    go_wp2
    go_roundg (n - i - 1)
    case measure => have := JI.out; omega
    case rel => exact ⟨i + 1, T, by have := JI.out; omega, by go_num, by rw [TK.out, ST.out]; exact HT.out, by rw [MN.out]; exact own_kept OT.out ((Kept.refl (fun _ => False) wr).alloc _) (fun _ _ f => f), K5.out _⟩
  ·have i1 : ¬ (i : Int) < (n : Int) := by omega
   have ei : R.take i = R := List.take_of_length_le (by rw [LN.out]; omega)
   have e := HT.out
   rw [ei] at e
   have CO := Lib.hid (comp_all (T := T) (by rw [MN.out]; exact OT.out) (by rw [MN.out]; omega))
   have TE := Lib.hid e
   clear e ei
   go_wp2_with fail
   refine CO.out.mono ?_
   rintro e w6 ⟨v6, rfl, r6, k6⟩
   have R6 := Lib.hid r6
   have KQ6 := Lib.hid (kept_fresh (keptFF KQ4.out KK.out) k6 (fun q hq => by have h1 := own_from OT.out hq; have h2 := KQ4.out.size; omega))
   have KF := Lib.hid (keptFF K1.out KQ6.out)
   obtain ⟨_, _, _, _, q4⟩ := Q0.out _ KQ6.out
   obtain ⟨a6, c6, rfl, hc6, _⟩ := r6
   obtain ⟨k, hk⟩ : ∃ k, (dedI T).length = k := ⟨_, rfl⟩
   have HK := Lib.hid hk
   rw [hk] at hc6 R6
   rw [hk]
   have l0 : 0 ≤ q.li := by omega
   have l1 : ¬ q.li < 0 := by omega
   clear k6 hk
   go_wp2
   go_ret2
   exact ⟨_, R, rfl, by rw [← TE.out]; exact R6.out.takeN q.li l0, PS.out.1, PS.out.2, KF.out⟩
end Go.Proofs.Ytibakmchgppndaa
/- What a page has: plain law. -/
namespace Go.Proofs.Ytibakmchgppndaa
open Go.RowKit

theorem snoc_ind {α : Type} {p : List α → Prop} (h0 : p []) (h1 : ∀ L x, p L → p (L ++ [x])) (L : List α) : p L := by
 have h : ∀ M : List α, p M.reverse := fun M => by
  induction M with
  | nil => exact h0
  | cons x t ih => rw [List.reverse_cons]; exact h1 _ _ ih
 have := h L.reverse
 rwa [List.reverse_reverse] at this
/-- Rising by trace. -/
def TrS (L : List Spn) : Prop := L.Pairwise (fun x y => x.tr ≤ y.tr)
theorem tr_of {L : List Spn} (h : SortedS L) : TrS L := List.Pairwise.imp (fun {x y} h => by unfold keyLt at h; omega) h
theorem TrS.pre {P S : List Spn} (h : TrS (P ++ S)) : TrS P := (List.pairwise_append.1 h).1
theorem TrS.last {P : List Spn} {s : Spn} (h : TrS (P ++ [s])) : ∀ x ∈ P, x.tr ≤ s.tr := fun x hx => (List.pairwise_append.1 h).2.2 x hx s (by simp)
/-- What is known of the traces of a prefix. -/
structure TrOk (after : Int) (P : List Spn) : Prop where
 rise : (tracesF after P).Pairwise (fun a b => a < b)
 sound : ∀ t ∈ tracesF after P, after < t ∧ ∃ x ∈ P, x.tr = t
 all : ∀ x ∈ P, after < x.tr → x.tr ∈ tracesF after P
 last : ∀ t, (tracesF after P).getLast? = some t → ∀ x ∈ P, after < x.tr → x.tr ≤ t
theorem getLast_mem {α : Type} {L : List α} {t : α} (h : L.getLast? = some t) : t ∈ L := List.mem_of_getLast? h
theorem snoc_last {α : Type} {L : List α} {t : α} (h : L.getLast? = some t) : ∃ A, L = A ++ [t] := by
 refine ⟨L.dropLast, ?_⟩
 have hne : L ≠ [] := fun e => by subst e; cases h
 have h2 := List.getLast?_eq_some_getLast hne
 rw [h2] at h
 have h3 := List.dropLast_concat_getLast hne
 rw [Option.some.inj h] at h3
 exact h3.symm
theorem tr_ok {after : Int} : ∀ P : List Spn, TrS P → TrOk after P := snoc_ind
 (fun _ => ⟨by simp [tracesF], by simp [tracesF], by simp, by simp⟩)
 (fun P s ih hs => by
  have I := ih hs.pre
  have hl := hs.last
  unfold TrOk at *
  by_cases h : after < s.tr ∧ ¬ (tracesF after P).getLast? = some s.tr
  ·have e : tracesF after (P ++ [s]) = tracesF after P ++ [s.tr] := by rw [traces_snoc]; unfold trStep; rw [if_pos h]
   refine ⟨?_, ?_, ?_, ?_⟩
   ·rw [e, List.pairwise_append]
    refine ⟨I.rise, by simp, fun a ha b hb => ?_⟩
    simp at hb; subst hb
    obtain ⟨ha1, x, hx, rfl⟩ := I.sound a ha
    have h1 := hl x hx
    rcases Int.lt_or_eq_of_le h1 with h2 | h2
    ·exact h2
    ·exfalso
     cases hlast : (tracesF after P).getLast? with
     | none => rw [List.getLast?_eq_none_iff] at hlast; rw [hlast] at ha; cases ha
     | some t =>
      have h3 := I.last t hlast x hx ha1
      obtain ⟨_, y, hy, rfl⟩ := I.sound t (getLast_mem hlast)
      have h4 := hl y hy
      exact h.2 (by rw [hlast]; congr 1; omega)
   ·intro t ht
    rw [e] at ht
    rcases List.mem_append.1 ht with ht | ht
    ·obtain ⟨h1, x, hx, hxe⟩ := I.sound t ht
     exact ⟨h1, x, List.mem_append_left _ hx, hxe⟩
    ·simp at ht; subst ht; exact ⟨h.1, s, by simp, rfl⟩
   ·intro x hx ha
    rw [e]
    rcases List.mem_append.1 hx with hx | hx
    ·exact List.mem_append_left _ (I.all x hx ha)
    ·simp at hx; subst hx; simp
   ·intro t ht x hx ha
    rw [e, List.getLast?_append] at ht
    simp at ht; subst ht
    rcases List.mem_append.1 hx with hx | hx
    ·exact hl x hx
    ·simp at hx; subst hx; exact Int.le_refl _
  ·have e : tracesF after (P ++ [s]) = tracesF after P := by rw [traces_snoc]; unfold trStep; rw [if_neg h]
   refine ⟨by rw [e]; exact I.rise, ?_, ?_, ?_⟩
   ·intro t ht
    rw [e] at ht
    obtain ⟨h1, x, hx, hxe⟩ := I.sound t ht
    exact ⟨h1, x, List.mem_append_left _ hx, hxe⟩
   ·intro x hx ha
    rw [e]
    rcases List.mem_append.1 hx with hx | hx
    ·exact I.all x hx ha
    ·simp at hx; subst hx
     have : (tracesF after P).getLast? = some x.tr := Classical.byContradiction fun c => h ⟨ha, c⟩
     exact getLast_mem this
   ·intro t ht x hx ha
    rw [e] at ht
    rcases List.mem_append.1 hx with hx | hx
    ·exact I.last t ht x hx ha
    ·simp at hx; subst hx
     have h3 : (tracesF after P).getLast? = some x.tr := Classical.byContradiction fun c => h ⟨ha, c⟩
     rw [h3] at ht; cases ht; exact Int.le_refl _)
/-- The rows of the traces of P. -/
def rowsF (after : Int) (P : List Spn) : List (Int × List Spn) := (tracesF after P).map (fun t => (t, ofTr t P))
theorem ofTr_none {t : Int} {P : List Spn} (h : ∀ x ∈ P, ¬ x.tr = t) : ofTr t P = [] := by
 unfold ofTr
 rw [List.filter_eq_nil_iff]
 intro x hx; simpa using h x hx
theorem map_same {P : List Spn} {s : Spn} {T : List Int} (h : ∀ t ∈ T, ¬ s.tr = t) : T.map (fun t => (t, ofTr t (P ++ [s]))) = T.map (fun t => (t, ofTr t P)) :=
 List.map_congr_left fun t ht => by rw [ofTr_snoc_no (h t ht)]
theorem rows_low {after : Int} {P : List Spn} {s : Spn} (hs : TrS (P ++ [s])) (h : s.tr ≤ after) : rowsF after (P ++ [s]) = rowsF after P := by
 have e : tracesF after (P ++ [s]) = tracesF after P := by rw [traces_snoc]; unfold trStep; rw [if_neg (fun c => by omega)]
 unfold rowsF
 rw [e]
 exact map_same fun t ht => by have := ((tr_ok P hs.pre).sound t ht).1; omega
theorem rows_last {after : Int} {P : List Spn} {s : Spn} (hs : TrS (P ++ [s])) {A : List (Int × List Spn)} {L : List Spn} (h : rowsF after P = A ++ [(s.tr, L)]) : rowsF after (P ++ [s]) = A ++ [(s.tr, L ++ [s])] := by
 have hT : (tracesF after P) = A.map Prod.fst ++ [s.tr] := by
  have := congrArg (List.map Prod.fst) h
  unfold rowsF at this
  rw [List.map_map] at this
  simpa [Function.comp_def] using this
 have e : tracesF after (P ++ [s]) = tracesF after P := by
  rw [traces_snoc]; unfold trStep; rw [if_neg (fun c => c.2 (by rw [hT]; simp))]
 have hr := (tr_ok (after := after) P hs.pre).rise
 rw [hT, List.pairwise_append] at hr
 have hlt : ∀ t ∈ A.map Prod.fst, ¬ s.tr = t := fun t ht => by have := hr.2.2 t ht s.tr (by simp); omega
 have h2 := h
 unfold rowsF at h2
 rw [hT, List.map_append] at h2
 have h3 := List.append_inj' h2 (by simp)
 unfold rowsF
 rw [e, hT, List.map_append, map_same hlt, h3.1]
 have h4 := h3.2
 simp at h4
 simp [ofTr_snoc_yes rfl, h4]
theorem rows_new {after : Int} {P : List Spn} {s : Spn} (hs : TrS (P ++ [s])) (h : after < s.tr) (hn : ¬ (tracesF after P).getLast? = some s.tr) : rowsF after (P ++ [s]) = rowsF after P ++ [(s.tr, [s])] ∧ tracesF after (P ++ [s]) = tracesF after P ++ [s.tr] := by
 have e : tracesF after (P ++ [s]) = tracesF after P ++ [s.tr] := by rw [traces_snoc]; unfold trStep; rw [if_pos ⟨h, hn⟩]
 have hr := (tr_ok (after := after) (P ++ [s]) hs).rise
 rw [e, List.pairwise_append] at hr
 have hlt : ∀ t ∈ tracesF after P, ¬ s.tr = t := fun t ht => by have := hr.2.2 t ht s.tr (by simp); omega
 have h0 : ofTr s.tr P = [] := ofTr_none fun x hx c => hlt s.tr (by rw [← c]; exact (tr_ok (after := after) P hs.pre).all x hx (by omega)) rfl
 refine ⟨?_, e⟩
 unfold rowsF
 rw [e, List.map_append, map_same hlt]
 simp [ofTr_snoc_yes rfl, h0]
theorem traces_pre_aux (after : Int) : ∀ (S : List Spn) (a : List Int), ∃ e, S.foldl (trStep after) a = a ++ e
 | [], a => ⟨[], by simp⟩
 | x :: t, a => by
  obtain ⟨e2, h2⟩ := traces_pre_aux after t (trStep after a x)
  have : ∃ e1, trStep after a x = a ++ e1 := by
   unfold trStep; split
   ·exact ⟨[x.tr], rfl⟩
   ·exact ⟨[], by simp⟩
  obtain ⟨e1, h1⟩ := this
  exact ⟨e1 ++ e2, by rw [List.foldl_cons, h2, h1, List.append_assoc]⟩
theorem traces_pre (after : Int) (P S : List Spn) : ∃ e, tracesF after (P ++ S) = tracesF after P ++ e := by
 unfold tracesF
 rw [List.foldl_append]
 exact traces_pre_aux after S _
/-- A page of R: its rows, the last trace, and whether there are more. -/
def pageT (after : Int) (limit : Nat) (R : List Spn) : List Int := (tracesF after R).take limit
def pageF (after : Int) (limit : Nat) (R : List Spn) : List (Int × List Spn) := (pageT after limit R).map (fun t => (t, ofTr t R))
def nextF (after : Int) (T : List Int) : Int := T.getLast?.getD after
def moreF (after : Int) (limit : Nat) (R : List Spn) : Bool := decide (limit < (tracesF after R).length)
theorem page_whole {after : Int} {limit : Nat} {R : List Spn} (h : (tracesF after R).length ≤ limit) : pageT after limit R = tracesF after R ∧ pageF after limit R = rowsF after R ∧ moreF after limit R = false := by
 have e : (tracesF after R).take limit = tracesF after R := List.take_of_length_le h
 refine ⟨e, by unfold pageF pageT rowsF; rw [e], by unfold moreF; simp; omega⟩
theorem page_cut {after : Int} {limit : Nat} {R P S : List Spn} {s : Spn} (hs : TrS R) (hR : R = P ++ s :: S) (hl : (tracesF after P).length = limit) (h : after < s.tr) (hn : ¬ (tracesF after P).getLast? = some s.tr) : pageT after limit R = tracesF after P ∧ pageF after limit R = rowsF after P ∧ moreF after limit R = true := by
 have hR2 : R = (P ++ [s]) ++ S := by rw [hR]; simp
 have hs2 : TrS (P ++ [s]) := by rw [hR2] at hs; exact hs.pre
 obtain ⟨e, he⟩ := traces_pre after (P ++ [s]) S
 rw [← hR2, (rows_new hs2 h hn).2] at he
 have e1 : (tracesF after R).take limit = tracesF after P := by
  rw [he, List.append_assoc, List.take_append_of_le_length (by omega), List.take_of_length_le (by omega)]
 have hr := (tr_ok (after := after) (P ++ [s]) hs2).rise
 rw [(rows_new hs2 h hn).2, List.pairwise_append] at hr
 refine ⟨e1, ?_, ?_⟩
 ·unfold pageF pageT rowsF
  rw [e1]
  refine List.map_congr_left fun t ht => ?_
  have hlt : t < s.tr := hr.2.2 t ht s.tr (by simp)
  have : ofTr t (s :: S) = [] := ofTr_none fun x hx => by
   rw [hR] at hs
   rcases List.mem_cons.1 hx with rfl | hx
   ·omega
   ·have := (List.pairwise_cons.1 (List.pairwise_append.1 hs).2.1).1 x hx; omega
  have e2 : ofTr t R = ofTr t P ++ ofTr t (s :: S) := by rw [hR]; unfold ofTr; rw [List.filter_append]
  rw [e2, this, List.append_nil]
 ·unfold moreF
  rw [he]; simp; omega
theorem rowsF_last {after : Int} {P : List Spn} {A : List (Int × List Spn)} {y : Int × List Spn} (h : rowsF after P = A ++ [y]) : (tracesF after P).getLast? = some y.1 := by
 have := congrArg (List.map Prod.fst) h
 unfold rowsF at this
 rw [List.map_map] at this
 have e : tracesF after P = A.map Prod.fst ++ [y.1] := by simpa [Function.comp_def] using this
 rw [e]; simp
theorem rowsF_len (after : Int) (P : List Spn) : (rowsF after P).length = (tracesF after P).length := by unfold rowsF; simp
theorem rowsF_nil {after : Int} {P : List Spn} (h : rowsF after P = []) : tracesF after P = [] := by
 have := rowsF_len after P
 rw [h] at this
 exact List.eq_nil_of_length_eq_zero this.symm
theorem ofTr_le (t : Int) (P : List Spn) : (ofTr t P).length ≤ P.length := by unfold ofTr; exact List.length_filter_le _ _
end Go.Proofs.Ytibakmchgppndaa
/- The rows of a page, as they lie. -/
namespace Go.Proofs.Ytibakmchgppndaa
open Go.RowKit

/-- A row of a page, as it lies: its trace, its slice, its spans. -/
structure RowV where
 t : Int
 v : Value
 L : List Spn
def cellsR : List RowV → List Value
 | [] => []
 | y :: t => .int .i64 y.t :: y.v :: cellsR t
def stripR (Y : List RowV) : List (Int × List Spn) := Y.map (fun y => (y.t, y.L))
theorem cellsR_append : ∀ a b, cellsR (a ++ b) = cellsR a ++ cellsR b
 | [], b => rfl
 | m :: t, b => by simp [cellsR, cellsR_append t b]
theorem cellsR_length : ∀ Y, (cellsR Y).length = Y.length * 2
 | [] => rfl
 | m :: t => by simp [cellsR, cellsR_length t]; omega
theorem cellsR_at : ∀ (Y : List RowV) (i : Nat) (y : RowV), Y[i]? = some y → (cellsR Y)[i * 2]? = some (.int .i64 y.t) ∧ (cellsR Y)[i * 2 + 1]? = some y.v
 | [], i, y, h => by simp at h
 | x :: t, 0, y, h => by simp at h; subst h; exact ⟨rfl, rfl⟩
 | x :: t, i + 1, y, h => by
  have := cellsR_at t i y (by simpa using h)
  rw [show (i + 1) * 2 = i * 2 + 1 + 1 by omega]
  simpa [cellsR] using this
theorem stripR_append (a b : List RowV) : stripR (a ++ b) = stripR a ++ stripR b := by simp [stripR]
theorem stripR_length (Y : List RowV) : (stripR Y).length = Y.length := by simp [stripR]
/-- Rows that are one's own. -/
structure RowsAt (w : World) (base : Nat) (v : Value) (Y : List RowV) : Prop where
 own : w.ownsRow base 46 2 v Y.length (cellsR Y)
 each : ∀ y ∈ Y, w.ownsRow base 37 8 y.v y.L.length (cellsS y.L)
 apart : Y.Pairwise (fun y z => ∀ q, y.v.ownBlock = some q → ¬ z.v.ownBlock = some q)
theorem own_block {w : World} {base e size : Nat} {v : Value} {n : Nat} {xs : List Value} (h : w.ownsRow base e size v n xs) {q : Nat} (hq : v.ownBlock = some q) : ∃ cur, w.heap[q]? = some (.cells cur e (0, 0)) := by
 rcases h.2 with ⟨rfl, _⟩ | ⟨g, cap, cur, rfl, _, hg, _⟩
 ·cases hq
 ·cases hq; exact ⟨cur, hg⟩
theorem own_lt2 {w : World} {base e size : Nat} {v : Value} {n : Nat} {xs : List Value} (h : w.ownsRow base e size v n xs) {q : Nat} (hq : v.ownBlock = some q) : q < w.heap.size := by
 obtain ⟨cur, hc⟩ := own_block h hq
 exact (Array.getElem?_eq_some_iff.1 hc).1
theorem own_types {w : World} {b b' e e' s s' : Nat} {v v' : Value} {n n' : Nat} {xs xs' : List Value} (h : w.ownsRow b e s v n xs) (h' : w.ownsRow b' e' s' v' n' xs') (hne : ¬ e = e') {q : Nat} (hq : v.ownBlock = some q) : ¬ v'.ownBlock = some q := fun hq' => by
 obtain ⟨c, h1⟩ := own_block h hq
 obtain ⟨c', h2⟩ := own_block h' hq'
 rw [h1] at h2
 cases h2
 exact hne rfl
theorem RowsAt.nil (w : World) (base : Nat) : RowsAt w base (.slice none 0 0) [] := ⟨World.ownsRow_nil _ _ _ _, fun y hy => (by cases hy), List.Pairwise.nil⟩
theorem RowsAt.kept {S : Nat → Prop} {w w' : World} {base : Nat} {v : Value} {Y : List RowV} (h : RowsAt w base v Y) (hK : Kept S w w') (hS : ∀ q, base ≤ q → ¬ S q) : RowsAt w' base v Y :=
 ⟨own_kept h.own hK (fun q hq => hS q (own_from h.own hq)), fun y hy => own_kept (h.each y hy) hK (fun q hq => hS q (own_from (h.each y hy) hq)), h.apart⟩
theorem RowsAt.push {w w1 : World} {base : Nat} {v v' u : Value} {Y : List RowV} {t : Int} {L : List Spn} (h : RowsAt w base v Y) (k : Kept (fun q => v.ownBlock = some q) w w1) (o : w1.ownsRow base 46 2 v' (Y.length + 1) (cellsR Y ++ [.int .i64 t, u])) (ou : w1.ownsRow base 37 8 u L.length (cellsS L)) (hu : ∀ q, u.ownBlock = some q → w.heap.size ≤ q) : RowsAt w1 base v' (Y ++ [⟨t, u, L⟩]) := by
 refine ⟨by rw [List.length_append, cellsR_append]; exact o, fun y hy => ?_, ?_⟩
 ·rcases List.mem_append.1 hy with hy | hy
  ·exact own_kept (h.each y hy) k (fun q hq e => own_types h.own (h.each y hy) (by decide) e hq)
  ·simp at hy; subst hy; exact ou
 ·rw [List.pairwise_append]
  refine ⟨h.apart, by simp, fun y hy z hz q hq e => ?_⟩
  simp at hz; subst hz
  have h1 := own_lt2 (h.each y hy) hq
  have h2 := hu q e
  omega
theorem RowsAt.grow {w w1 : World} {base g n cap : Nat} {u u' : Value} {A : List RowV} {t : Int} {L L' : List Spn} (h : RowsAt w base (.slice (some ⟨g, 0, none⟩) n cap) (A ++ [⟨t, u, L⟩])) (k : Kept (fun q => u.ownBlock = some q) w w1) (o : w1.ownsRow base 37 8 u' L'.length (cellsS L')) (hu : ∀ q, u'.ownBlock = some q → u.ownBlock = some q ∨ w.heap.size ≤ q) : RowsAt (w1.setCell ⟨g, A.length * 2 + 1, none⟩ u') base (.slice (some ⟨g, 0, none⟩) n cap) (A ++ [⟨t, u', L'⟩]) := by
 have hn : n = A.length + 1 := by
  rcases h.own.2 with ⟨h0, _⟩ | ⟨_, _, _, h0, _⟩
  ·cases h0
  ·injection h0 with _ h1 _; rw [h1]; simp
 have hlast := h.each ⟨t, u, L⟩ (by simp)
 have ho : w1.ownsRow base 46 2 (.slice (some ⟨g, 0, none⟩) n cap) (A ++ [(⟨t, u, L⟩ : RowV)]).length (cellsR (A ++ [(⟨t, u, L⟩ : RowV)])) := own_kept h.own k (fun q hq e => own_types h.own hlast (by decide) hq e)
 have hlen : (A ++ [(⟨t, u, L⟩ : RowV)]).length = n := by rw [hn]; simp
 rw [hlen] at ho
 have hst := (ho.stored (A.length * 2 + 1) u').1
 have hset : (cellsR (A ++ [⟨t, u, L⟩])).set (A.length * 2 + 1) u' = cellsR (A ++ [⟨t, u', L'⟩]) := by
  rw [cellsR_append, cellsR_append, List.set_append_right _ _ (by rw [cellsR_length]; omega), cellsR_length, show A.length * 2 + 1 - A.length * 2 = 1 by omega]
  rfl
 rw [hset] at hst
 have KS : Kept (fun q => q = g) w1 (w1.setCell ⟨g, A.length * 2 + 1, none⟩ u') := (Kept.refl (fun q => q = g) w1).setCell (fun _ => rfl) _
 have hap := List.pairwise_append.1 h.apart
 refine ⟨by rw [show (A ++ [(⟨t, u', L'⟩ : RowV)]).length = n by rw [hn]; simp]; exact hst, fun y hy => ?_, ?_⟩
 ·rcases List.mem_append.1 hy with hy | hy
  ·have h1 := h.each y (List.mem_append_left _ hy)
   exact own_kept (own_kept h1 k (fun q hq e => hap.2.2 y hy ⟨t, u, L⟩ (by simp) q hq e)) KS (fun q hq e => own_types h.own h1 (by decide) (q := g) rfl (e ▸ hq))
  ·simp at hy; subst hy
   exact own_kept o KS (fun q hq e => own_types ho o (by decide) (q := g) rfl (e ▸ hq))
 ·rw [List.pairwise_append]
  refine ⟨hap.1, by simp, fun y hy z hz q hq e => ?_⟩
  simp at hz; subst hz
  have h1 := h.each y (List.mem_append_left _ hy)
  rcases hu q e with h2 | h2
  ·exact hap.2.2 y hy ⟨t, u, L⟩ (by simp) q hq h2
  ·have h3 := own_lt2 h1 hq; omega
/-- Rows, as they lie. -/
def ReadsP (w : World) (v : Value) (X : List (Int × List Spn)) : Prop :=
 ∃ ao cap, v = .slice ao X.length cap ∧ (X = [] ∨ ∃ g o, ao = some ⟨g, o, none⟩ ∧ ∀ i x, X[i]? = some x → w.cell? ⟨g, o + i * 2, none⟩ = some (.int .i64 x.1) ∧ ∃ u, w.cell? ⟨g, o + i * 2 + 1, none⟩ = some u ∧ ReadsS w u x.2)
theorem ReadsP.keptF {w w' : World} {v : Value} {X : List (Int × List Spn)} (h : ReadsP w v X) (hK : Kept (fun _ => False) w w') : ReadsP w' v X := by
 obtain ⟨ao, cap, rfl, h⟩ := h
 refine ⟨ao, cap, rfl, ?_⟩
 rcases h with h | ⟨g, o, rfl, h⟩
 ·exact .inl h
 ·refine .inr ⟨g, o, rfl, fun i x hx => ?_⟩
  obtain ⟨h1, u, h2, h3⟩ := h i x hx
  exact ⟨hK.cell h1 (fun f => f), u, hK.cell h2 (fun f => f), h3.keptF hK⟩
theorem ReadsP.of_rows {w : World} {base : Nat} {v : Value} {Y : List RowV} (h : RowsAt w base v Y) : ReadsP w v (stripR Y) := by
 rcases h.own.2 with ⟨rfl, h0⟩ | ⟨g, cap, cur, rfl, _⟩
 ·have : Y = [] := List.eq_nil_of_length_eq_zero h0
  subst this
  exact ⟨none, 0, rfl, .inl rfl⟩
 ·refine ⟨some ⟨g, 0, none⟩, cap, by rw [stripR_length], .inr ⟨g, 0, rfl, fun i x hx => ?_⟩⟩
  unfold stripR at hx
  rw [List.getElem?_map, Option.map_eq_some_iff] at hx
  obtain ⟨y, hy, rfl⟩ := hx
  obtain ⟨c0, c1⟩ := cellsR_at Y i y hy
  have e0 := h.own.cells (g := g) rfl _ _ c0
  have e1 := h.own.cells (g := g) rfl _ _ c1
  rw [add_mid, Nat.zero_add] at e0 e1
  rw [Nat.zero_add]
  exact ⟨e0, y.v, e1, ReadsS.of_row (h.each y (List.mem_of_getElem? hy))⟩
end Go.Proofs.Ytibakmchgppndaa
/- SameInts and SamePage of what is the same. -/
namespace Go.Proofs.Ytibakmchgppndaa
open Go.RowKit

set_option maxHeartbeats 4000000 in
set_option maxRecDepth 100000 in
theorem ints_refl (w : World) (va vb : Value) (A : List Int) (ha : ReadsI w va A) (hb : ReadsI w vb A) (hl : A.length ≤ 1000000) :
  Calls Try.prog 25 #[va, vb] w fun e w' => e = .returned (.bool true) ∧ Kept (fun _ => False) w w' := by
 obtain ⟨ao, ca, rfl, _, ra⟩ := ha
 obtain ⟨bo, cb, rfl, _, rb⟩ := hb
 have RA := Lib.hid ra; have RB := Lib.hid rb
 clear ra rb
 obtain ⟨n, hn⟩ : ∃ n, A.length = n := ⟨_, rfl⟩
 rw [hn]
 rw [hn] at hl
 have d0 : ((n : Int) != (n : Int)) = false := by simp
 have HA := Lib.hid hn
 clear hn
 go_enter Try.func25, Try.ntmps25
 go_wp2
 go_loopg [5] n (fun ghv s wr => ∃ (i : Nat), i + ghv = n ∧ s = .int .i64 i ∧ Kept (fun _ => False) w wr)
 case atStart => exact ⟨0, by omega, by go_num, Kept.refl _ _⟩
 case round =>
  obtain ⟨i, hg1, rfl, hk⟩ := hrel
  have G1 := Lib.hid hg1; have KK := Lib.hid hk
  clear hg1 hk
  by_cases hin : i < n
  ·have i0 : (i : Int) < (n : Int) := by omega
   have i1 : (0 : Int) ≤ (i : Int) := by omega
   have i2 : (i : Int) ≤ 1000000 := by omega
   obtain ⟨g1, o1, rfl, hc1⟩ : ∃ g o, ao = some ⟨g, o, none⟩ ∧ ∀ j x, A[j]? = some x → w.cell? ⟨g, o + j, none⟩ = some (.int .i64 x) := by
    rcases RA.out with h | h
    ·have := HA.out; subst h; simp at this; omega
    ·exact h
   obtain ⟨g2, o2, rfl, hc2⟩ : ∃ g o, bo = some ⟨g, o, none⟩ ∧ ∀ j x, A[j]? = some x → w.cell? ⟨g, o + j, none⟩ = some (.int .i64 x) := by
    rcases RB.out with h | h
    ·have := HA.out; subst h; simp at this; omega
    ·exact h
   obtain ⟨x, hx⟩ : ∃ x, A[i]? = some x := ⟨_, List.getElem?_eq_getElem (by rw [HA.out]; exact hin)⟩
   have rx := KK.out.cell (hc1 i x hx) (fun f => f)
   have ry := KK.out.cell (hc2 i x hx) (fun f => f)
   have d1 : (x != x) = false := by simp
   clear hx hc1 hc2
   go_wp2
   go_quiet (fail)
   go_wp2
   go_roundg (n - (i + 1))
   case measure => have := G1.out; omega
   case rel => exact ⟨i + 1, by omega, by go_num, kept_dn KK.out _⟩
  ·have i0 : ¬ (i : Int) < (n : Int) := by omega
   go_wp2
   go_ret
   exact ⟨rfl, KK.out⟩
set_option maxHeartbeats 4000000 in
set_option maxRecDepth 100000 in
theorem page_refl (w : World) (va vb : Value) (X : List (Int × List Spn)) (nx : Int) (mo : Bool) (ha : ReadsP w va X) (hb : ReadsP w vb X) (hl : X.length ≤ 1000000) (hL : ∀ x ∈ X, x.2.length ≤ 1000000) :
  Calls Try.prog 24 #[.agg #[va, .int .i64 nx, .bool mo], .agg #[vb, .int .i64 nx, .bool mo]] w fun e w' => e = .returned (.bool true) ∧ Kept (fun _ => False) w w' := by
 obtain ⟨W1, hW1⟩ : ∃ W, (w.alloc (.cells #[va, .int .i64 nx, .bool mo] 52)).alloc (.cells #[vb, .int .i64 nx, .bool mo] 52) = W := ⟨_, rfl⟩
 have k1 : Kept (fun _ => False) w W1 := by rw [← hW1]; exact ((Kept.refl _ w).alloc _).alloc _
 have HA := ha.keptF k1
 have HB := hb.keptF k1
 obtain ⟨ao, ca, rfl, ra⟩ := HA
 obtain ⟨bo, cb, rfl, rb⟩ := HB
 have RA := Lib.hid ra; have RB := Lib.hid rb; have K1 := Lib.hid k1
 clear ra rb ha hb k1
 obtain ⟨pb, hpb⟩ : ∃ q, w.heap.size = q := ⟨_, rfl⟩
 obtain ⟨qb, hqb⟩ : ∃ q, pb + 1 = q := ⟨_, rfl⟩
 obtain ⟨n, hn⟩ : ∃ n, X.length = n := ⟨_, rfl⟩
 rw [hn] at hW1 hl ⊢
 have c0 : W1.cell? ⟨pb, 0, none⟩ = some (.slice ao n ca) := by rw [← hW1, ← hpb]; simp
 have c1 : W1.cell? ⟨pb, 1, none⟩ = some (.int .i64 nx) := by rw [← hW1, ← hpb]; simp
 have c2 : W1.cell? ⟨pb, 2, none⟩ = some (.bool mo) := by rw [← hW1, ← hpb]; simp
 have e0 : W1.cell? ⟨qb, 0, none⟩ = some (.slice bo n cb) := by rw [← hW1, ← hqb, ← hpb]; simp
 have e1 : W1.cell? ⟨qb, 1, none⟩ = some (.int .i64 nx) := by rw [← hW1, ← hqb, ← hpb]; simp
 have e2 : W1.cell? ⟨qb, 2, none⟩ = some (.bool mo) := by rw [← hW1, ← hqb, ← hpb]; simp
 have C0 := Lib.hid c0; have E0 := Lib.hid e0
 have d0 : ((n : Int) != (n : Int)) = false := by simp
 have d1 : (nx != nx) = false := by simp
 have d2 : (mo != mo) = false := by simp
 have HN := Lib.hid hn
 have HLL := Lib.hid hL
 clear hn hL
 go_enter Try.func24, Try.ntmps24
 go_wp2
 clear hW1 hpb hqb
 go_loopg [5] n (fun ghv s wr => ∃ (i : Nat), i + ghv = n ∧ s = .int .i64 i ∧ Kept (fun _ => False) W1 wr)
 case atStart => exact ⟨0, by omega, by go_num, Kept.refl _ _⟩
 case round =>
  obtain ⟨i, hg1, rfl, hk⟩ := hrel
  have G1 := Lib.hid hg1; have KK := Lib.hid hk
  have q0 := hk.cell C0.out (fun f => f)
  have q1 := hk.cell E0.out (fun f => f)
  clear hg1 hk c0 c1 c2 e0 e1 e2
  by_cases hin : i < n
  ·have i0 : (i : Int) < (n : Int) := by omega
   have i1 : (0 : Int) ≤ (i : Int) := by omega
   have i2 : (i : Int) ≤ 1000000 := by omega
   obtain ⟨g1, o1, rfl, hc1⟩ := RA.out.resolve_left (fun h => by have := HN.out; subst h; simp at this; omega)
   obtain ⟨g2, o2, rfl, hc2⟩ := RB.out.resolve_left (fun h => by have := HN.out; subst h; simp at this; omega)
   obtain ⟨x, hx⟩ : ∃ x, X[i]? = some x := ⟨_, List.getElem?_eq_getElem (by rw [HN.out]; exact hin)⟩
   have LX := HLL.out x (List.mem_of_getElem? hx)
   obtain ⟨q2, u1, q4, r1⟩ := hc1 i x hx
   obtain ⟨q3, u2, q5, r2⟩ := hc2 i x hx
   obtain ⟨s1, c1, rfl, _⟩ := id r1
   obtain ⟨s2, c2, rfl, _⟩ := id r2
   obtain ⟨xt, xL⟩ := x
   simp only at q2 q3 q4 q5 r1 r2 LX
   replace LX : xL.length ≤ 1000000000 := by omega
   have RS1 := Lib.hid (r1.keptF KK.out)
   have RS2 := Lib.hid (r2.keptF KK.out)
   obtain ⟨m, hm⟩ : ∃ m, xL.length = m := ⟨_, rfl⟩
   rw [hm] at q4 q5 RS1 RS2
   replace q2 := KK.out.cell q2 (fun f => f)
   replace q3 := KK.out.cell q3 (fun f => f)
   replace q4 := KK.out.cell q4 (fun f => f)
   replace q5 := KK.out.cell q5 (fun f => f)
   have d3 : (xt != xt) = false := by simp
   clear hx hc1 hc2 r1 r2 hm
   go_wp2
   refine wp_region_held_drew (S := (fun w' => w'.cell? ⟨pb, 0, none⟩ = some (.slice (some ⟨g1, o1, none⟩) n ca) ∧ w'.cell? ⟨qb, 0, none⟩ = some (.slice (some ⟨g2, o2, none⟩) n cb) ∧ w'.cell? ⟨g1, o1 + i * 2, none⟩ = some (.int .i64 xt) ∧ w'.cell? ⟨g2, o2 + i * 2, none⟩ = some (.int .i64 xt) ∧ w'.cell? ⟨g1, o1 + i * 2 + 1, none⟩ = some (.slice s1 m c1) ∧ w'.cell? ⟨g2, o2 + i * 2 + 1, none⟩ = some (.slice s2 m c2))) (by kernel_rfl) ?_ (fun hHeld => ?_)
   ·exact ⟨q0, q1, q2, q3, q4, q5⟩
   refine tW 0 opAt0 hHeld ?_
   (try simp only [Act.put]); try simp only [z2, List.set]
   refine tW 1 opAt1 hHeld ?_
   (try simp only [Act.put]); try simp only [z2, List.set]
   refine tW 2 opAt2 hHeld ?_
   (try simp only [Act.put]); try simp only [z2, List.set]
   refine tW 3 opAt3 hHeld ?_
   (try simp only [Act.put]); try simp only [z2, List.set]
   refine tW 4 opAt4 hHeld ?_
   (try simp only [Act.put]); try simp only [z2, List.set]
   refine tW 5 opAt5 hHeld ?_
   (try simp only [Act.put]); try simp only [z2, List.set]
   refine tW 6 opAt6 hHeld ?_
   (try simp only [Act.put]); try simp only [z2, List.set]
   refine tW 7 opAt7 hHeld ?_
   (try simp only [Act.put]); try simp only [z2, List.set]
   refine tW 8 opAt8 hHeld ?_
   (try simp only [Act.put]); try simp only [z2, List.set]
   refine tW 9 opAt9 hHeld ?_
   (try simp only [Act.put]); try simp only [z2, List.set]
   refine tW 10 opAt10 hHeld ?_
   (try simp only [Act.put]); try simp only [z2, List.set]
   refine tW 11 opAt11 hHeld ?_
   (try simp only [Act.put]); try simp only [z2, List.set]
   refine tW 12 opAt12 hHeld ?_
   (try simp only [Act.put]); try simp only [z2, List.set]
   refine tW 13 opAt13 hHeld ?_
   (try simp only [Act.put]); try simp only [z2, List.set]
   refine tW 14 opAt14 hHeld ?_
   (try simp only [Act.put]); try simp only [z2, List.set]
   refine tW 15 opAt15 hHeld ?_
   (try simp only [Act.put]); try simp only [z2, List.set]
   refine tW 16 opAt16 hHeld ?_
   (try simp only [Act.put]); try simp only [z2, List.set]
   refine tW 17 opAt17 hHeld ?_
   (try simp only [Act.put]); try simp only [z2, List.set]
   refine tW 18 opAt18 hHeld ?_
   (try simp only [Act.put]); try simp only [z2, List.set]
   refine tW 19 opAt19 hHeld ?_
   (try simp only [Act.put]); try simp only [z2, List.set]
   refine tW 20 opAt20 hHeld ?_
   (try simp only [Act.put]); try simp only [z2, List.set]
   refine tW 21 opAt21 hHeld ?_
   (try simp only [Act.put]); try simp only [z2, List.set]
   refine tW 22 opAt22 hHeld ?_
   (try simp only [Act.put]); try simp only [z2, List.set]
   refine tW 23 opAt23 hHeld ?_
   (try simp only [Act.put]); try simp only [z2, List.set]
   refine tW 24 opAt24 hHeld ?_
   (try simp only [Act.put]); try simp only [z2, List.set]
   refine tW 25 opAt25 hHeld ?_
   (try simp only [Act.put]); try simp only [z2, List.set]
   refine wpAnyH_ready (rs := [26]) (by kernel_rfl) (by simp) ?_
   refine AllReadyH.cons opAt26 (fun K hK => ?_) AllReadyH.nil
   go_simp
   go_at_call 11; refine (same_refl _ _ _ xL (RS1.out.keptF (Kept.refl (fun _ => False) wr).drew) (RS2.out.keptF (Kept.refl (fun _ => False) wr).drew) LX).mono ?_; rintro e w6 ⟨rfl, k6⟩; dsimp only
   refine hK.out _ _ ?_ (fun hHeld => ?_)
   ·exact ⟨k6.cell (hHeld.1) (fun f => f), k6.cell (hHeld.2.1) (fun f => f), k6.cell (hHeld.2.2.1) (fun f => f), k6.cell (hHeld.2.2.2.1) (fun f => f), k6.cell (hHeld.2.2.2.2.1) (fun f => f), k6.cell (hHeld.2.2.2.2.2) (fun f => f)⟩
   clear hK K
   (try simp only [Act.put]); try simp only [z2, List.set]
   refine tW 27 opAt27 hHeld ?_
   (try simp only [Act.put]); try simp only [z2, List.set]
   refine tW 28 opAt28 hHeld ?_
   (try simp only [Act.put]); try simp only [z2, List.set]
   refine wpAnyH_done (by kernel_rfl) ?_ _
   have KK6 := Lib.hid (keptFF KK.out (keptFF ((Kept.refl (fun _ => False) wr).drew) k6))
   clear hHeld k6
   go_wp2
   go_roundg (n - (i + 1))
   case measure => have := G1.out; omega
   case rel => exact ⟨i + 1, by omega, by go_num, KK6.out⟩
  ·have i0 : ¬ (i : Int) < (n : Int) := by omega
   go_wp2
   go_ret
   exact ⟨rfl, keptFF K1.out KK.out⟩
end Go.Proofs.Ytibakmchgppndaa
/- spoorref21's Scan: a page of traces. -/
namespace Go.Proofs.Ytibakmchgppndaa
open Go.RowKit

def scanOk (a li : Int) : Bool := decide (0 ≤ a) && (decide (a ≤ 2147483647) && (decide (1 ≤ li) && decide (li ≤ 64)))
theorem inf46 : (Try.prog.info? 46).map (fun i => (i.zero, i.size, i.bytes)) = some (some (.agg #[.int .i64 0, .slice none 0 0]), 2, 32) := by kernel_rfl
theorem box3 {w : World} {rb : Nat} {x y z : Value} (u v t : Value) (r0 : w.cell? ⟨rb, 0, none⟩ = some x) (r1 : w.cell? ⟨rb, 1, none⟩ = some y) (r2 : w.cell? ⟨rb, 2, none⟩ = some z) :
  let W := ((w.setCell ⟨rb, 0, none⟩ u).setCell ⟨rb, 1, none⟩ v).setCell ⟨rb, 2, none⟩ t
  W.cell? ⟨rb, 0, none⟩ = some u ∧ W.cell? ⟨rb, 1, none⟩ = some v ∧ W.cell? ⟨rb, 2, none⟩ = some t ∧ Kept (fun q => q = rb) w W := by
 have d0 := World.cell?_setCell_same w ⟨rb, 0, none⟩ u r0
 have r1' : (w.setCell ⟨rb, 0, none⟩ u).cell? ⟨rb, 1, none⟩ = some y := by rw [World.cell?_setCell_other _ _ _ _ (by simp)]; exact r1
 have d1 := World.cell?_setCell_same (w.setCell ⟨rb, 0, none⟩ u) ⟨rb, 1, none⟩ v r1'
 have d0' : ((w.setCell ⟨rb, 0, none⟩ u).setCell ⟨rb, 1, none⟩ v).cell? ⟨rb, 0, none⟩ = some u := by rw [World.cell?_setCell_other _ _ _ _ (by simp)]; exact d0
 have r2' : ((w.setCell ⟨rb, 0, none⟩ u).setCell ⟨rb, 1, none⟩ v).cell? ⟨rb, 2, none⟩ = some z := by rw [World.cell?_setCell_other _ _ _ _ (by simp), World.cell?_setCell_other _ _ _ _ (by simp)]; exact r2
 exact ⟨by rw [World.cell?_setCell_other _ _ _ _ (by simp)]; exact d0', by rw [World.cell?_setCell_other _ _ _ _ (by simp)]; exact d1, World.cell?_setCell_same _ _ _ r2', (((Kept.refl (fun q => q = rb) w).setCell (fun _ => rfl) _).setCell (fun _ => rfl) _).setCell (fun _ => rfl) _⟩
set_option maxHeartbeats 4000000 in
set_option maxRecDepth 100000 in
theorem rscan_bad {w : World} {mp : Nat} (a li now : Int) (hb : scanOk a li = false) : Calls Try.prog 19 #[.pointer (some ⟨mp, 0, none⟩), .int .i64 a, .int .i64 li, .int .i64 now] w fun e w' => e = .returned (.tuple #[.agg #[.slice none 0 0, .int .i64 0, .bool false], .int .i64 2]) ∧ Kept (fun _ => False) w w' := by
 by_cases c0 : a < 0
 ·go_enter Try.func19, Try.ntmps19
  go_wp2
  refine bodyPost_ret (v := _) (by simp [results, Try.results19, go_sem]; try rfl) rfl ?_
  exact ⟨rfl, (Kept.refl (fun _ => False) w).alloc _⟩
 ·by_cases c1 : 2147483647 < a
  ·go_enter Try.func19, Try.ntmps19
   go_wp2
   refine bodyPost_ret (v := _) (by simp [results, Try.results19, go_sem]; try rfl) rfl ?_
   exact ⟨rfl, (Kept.refl (fun _ => False) w).alloc _⟩
  ·by_cases c2 : li < 1
   ·go_enter Try.func19, Try.ntmps19
    go_wp2
    refine bodyPost_ret (v := _) (by simp [results, Try.results19, go_sem]; try rfl) rfl ?_
    exact ⟨rfl, (Kept.refl (fun _ => False) w).alloc _⟩
   ·have c3 : 64 < li := by unfold scanOk at hb; simp at hb; omega
    go_enter Try.func19, Try.ntmps19
    go_wp2
    refine bodyPost_ret (v := _) (by simp [results, Try.results19, go_sem]; try rfl) rfl ?_
    exact ⟨rfl, (Kept.refl (fun _ => False) w).alloc _⟩
set_option maxHeartbeats 8000000 in
set_option maxRecDepth 100000 in
theorem rscan_all {w : World} {mp : Nat} {L : List Spn} (a li now : Int) (hb : scanOk a li = true) (h1 : 0 ≤ now) (h2 : now ≤ 4294967296) (hr : RefAt w mp L) (hm : ∀ m ∈ L, chkB m = true) (hL : L.length ≤ 1000000) (hRL : (rowR now L).length ≤ 1000000) (hT : ∀ t ∈ tracesF a (rowR now L), getOk t = true) :
  Calls Try.prog 19 #[.pointer (some ⟨mp, 0, none⟩), .int .i64 a, .int .i64 li, .int .i64 now] w fun e w' => ∃ v', e = .returned (.tuple #[.agg #[v', .int .i64 (nextF a (pageT a li.toNat (rowR now L))), .bool (moreF a li.toNat (rowR now L))], .int .i64 0]) ∧ ReadsP w' v' (pageF a li.toNat (rowR now L)) ∧ Kept (fun _ => False) w w' := by
 obtain ⟨i46, hi0, hz0, hz1, hz2⟩ := info_parts inf46
 obtain ⟨g0, g1, g2, g3⟩ : ¬ a < 0 ∧ ¬ 2147483647 < a ∧ ¬ li < 1 ∧ ¬ 64 < li := by unfold scanOk at hb; simp at hb; omega
 have HR := Lib.hid hr; have HM := Lib.hid hm
 obtain ⟨RR, hRR⟩ : ∃ R, rowR now L = R := ⟨_, rfl⟩
 have HG := Lib.hid (fun (W : World) (t : Int) (ht : getOk t = true) (h : RefAt W mp L) => rget_all t now ht h1 h2 h hm hL)
 have HTR := Lib.hid (fun (W : World) (h : RefAt W mp L) => traces_all a now h1 h2 h hm hL)
 rw [hRR] at HG HTR hT hRL ⊢
 have HOK := Lib.hid hT
 have TLM := Lib.hid (Nat.le_trans (traces_len a RR) hRL)
 obtain ⟨PX, hPX⟩ : ∃ P, pageF a li.toNat RR = P := ⟨_, rfl⟩
 obtain ⟨NX, hNX⟩ : ∃ P, nextF a (pageT a li.toNat RR) = P := ⟨_, rfl⟩
 obtain ⟨MX, hMX⟩ : ∃ P, moreF a li.toNat RR = P := ⟨_, rfl⟩
 rw [hPX, hNX, hMX]
 unfold pageF pageT at hPX
 unfold pageT at hNX
 unfold moreF at hMX
 obtain ⟨T, hTT⟩ : ∃ T, tracesF a RR = T := ⟨_, rfl⟩
 rw [hTT] at HTR HOK TLM hPX hNX hMX
 have HPX := Lib.hid hPX; have HNX := Lib.hid hNX; have HMX := Lib.hid hMX
 clear hr hm hb hRR hT hRL hTT hPX hNX hMX
 go_enter Try.func19, Try.ntmps19
 go_wp2_with fail
 obtain ⟨rb, hrb⟩ : ∃ q, w.heap.size = q := ⟨_, rfl⟩
 obtain ⟨ob, hob⟩ : ∃ q, rb + 1 = q := ⟨_, rfl⟩
 obtain ⟨W1, hW1⟩ : ∃ W, (w.alloc (.cells #[.slice none 0 0, .int .i64 0, .bool false] 52)).alloc (.cells #[.slice none 0 0, .int .i64 a, .bool false] 52) = W := ⟨_, rfl⟩
 have K1 := Lib.hid (show Kept (fun _ => False) w W1 by rw [← hW1]; exact ((Kept.refl _ w).alloc _).alloc _)
 have R0 := Lib.hid (show W1.cell? ⟨rb, 0, none⟩ = some (.slice none 0 0) by rw [← hW1, ← hrb]; simp)
 have R1 := Lib.hid (show W1.cell? ⟨rb, 1, none⟩ = some (.int .i64 0) by rw [← hW1, ← hrb]; simp)
 have R2 := Lib.hid (show W1.cell? ⟨rb, 2, none⟩ = some (.bool false) by rw [← hW1, ← hrb]; simp)
 have RF := Lib.hid (show ∀ j, W1.frozen? ⟨rb, j, none⟩ = false from fun j => by rw [← hW1, ← hrb]; simp)
 have B0 := Lib.hid (show W1.cell? ⟨ob, 0, none⟩ = some (.slice none 0 0) by rw [← hW1, ← hob, ← hrb]; simp)
 have B1 := Lib.hid (show W1.cell? ⟨ob, 1, none⟩ = some (.int .i64 a) by rw [← hW1, ← hob, ← hrb]; simp)
 have B2 := Lib.hid (show W1.cell? ⟨ob, 2, none⟩ = some (.bool false) by rw [← hW1, ← hob, ← hrb]; simp)
 have BF := Lib.hid (show ∀ j, W1.frozen? ⟨ob, j, none⟩ = false from fun j => by rw [← hW1, ← hob, ← hrb]; simp)
 have RBO := Lib.hid (show rb < ob by omega)
 have S1 := Lib.hid (show W1.heap.size = ob + 1 by rw [← hW1, ← hob, ← hrb]; simp)
 have WR := Lib.hid hrb
 rw [hW1, hrb, hob]
 have HT1 := Lib.hid (HTR.out W1 (HR.out.keptF K1.out))
 clear hW1 hrb hob
 refine HT1.out.mono ?_
 rintro e w3 ⟨v3, rfl, o3, k3⟩
 obtain ⟨a3, c3, rfl⟩ := own_slice o3
 have O3 := Lib.hid o3
 have K3 := Lib.hid (keptFF K1.out k3)
 replace R0 := Lib.hid (k3.cell R0.out (fun f => f))
 replace R1 := Lib.hid (k3.cell R1.out (fun f => f))
 replace R2 := Lib.hid (k3.cell R2.out (fun f => f))
 replace RF := Lib.hid (fun j => k3.frozen (RF.out j) (by have := RBO.out; have := S1.out; simp only; omega) (fun f => f))
 replace BF := Lib.hid (fun j => k3.frozen (BF.out j) (by have := S1.out; simp only; omega) (fun f => f))
 replace B0 := Lib.hid (k3.cell B0.out (fun f => f))
 replace B1 := Lib.hid (k3.cell B1.out (fun f => f))
 replace B2 := Lib.hid (k3.cell B2.out (fun f => f))
 have OBT := Lib.hid (fun q (hq : (Value.slice a3 T.length c3).ownBlock = some q) => show ¬ q = ob by have h1 := own_from o3 hq; have h2 := S1.out; omega)
 obtain ⟨m, hm⟩ : ∃ m, T.length = m := ⟨_, rfl⟩
 rw [hm] at O3 OBT TLM
 have MN := Lib.hid hm
 have OBL := Lib.hid (show ob < w3.heap.size from World.block_lt_of_cell? _ _ B0.out)
 have TLm := TLM.out
 clear k3 o3
 rw [hm]
 clear hm
 go_wp2
 go_loopg [12] m (fun gh s wr => ∃ (i : Nat) (v : Value) (Y : List RowV), i + gh = m ∧ s = .int .i64 i ∧ (i : Int) ≤ li ∧ stripR Y = (T.take i).map (fun t => (t, ofTr t RR)) ∧ RowsAt wr w3.heap.size v Y ∧ wr.cell? ⟨ob, 0, none⟩ = some v ∧ wr.cell? ⟨ob, 1, none⟩ = some (.int .i64 (nextF a (T.take i))) ∧ wr.cell? ⟨ob, 2, none⟩ = some (.bool false) ∧ (∀ j, wr.frozen? ⟨ob, j, none⟩ = false) ∧ Kept (fun q => q = ob) w3 wr)
 case atStart => exact ⟨0, _, [], by omega, by go_num, by omega, rfl, RowsAt.nil _ _, B0.out, B1.out, B2.out, BF.out, Kept.refl _ _⟩
 case round =>
  obtain ⟨i, v, Y, ji, rfl, hil, hY, ry, cb0, cb1, cb2, fz, kk⟩ := hrel
  have JI := Lib.hid ji; have HY := Lib.hid hY; have RY := Lib.hid ry; have CB0 := Lib.hid cb0; have CB1 := Lib.hid cb1; have CB2 := Lib.hid cb2; have FZ := Lib.hid fz; have KK := Lib.hid kk
  obtain ⟨y, hyl⟩ : ∃ y, Y.length = y := ⟨_, rfl⟩
  have YL := Lib.hid hyl
  have YI := Lib.hid (show y = i by
   have := congrArg List.length hY
   rw [stripR_length, List.length_map, List.length_take] at this
   have := MN.out; omega)
  have hyi := YI.out
  subst hyi
  obtain ⟨ao, co, rfl⟩ := own_slice ry.own
  rw [hyl] at cb0 CB0 RY
  have KW := Lib.hid (kept_fresh K3.out kk (fun q e => by have := WR.out; have := RBO.out; omega))
  have i0 : (0 : Int) ≤ (y : Int) := by omega
  have kk2 := kk
  clear ji hY ry fz kk hyl
  by_cases hin : y < m
  ·by_cases hli : (y : Int) < li
   ·have i1 : (y : Int) < (m : Int) := by omega
    have i2 : (y : Int) ≤ 1000000 := by omega
    obtain ⟨t, ht⟩ : ∃ x, T[y]? = some x := ⟨_, List.getElem?_eq_getElem (by rw [MN.out]; exact hin)⟩
    have TS := Lib.hid (itake_snoc ht)
    have GO := Lib.hid (HG.out wr t (HOK.out t (List.mem_of_getElem? ht)) (HR.out.keptF KW.out))
    obtain ⟨g, rfl, _⟩ : ∃ g, a3 = some ⟨g, 0, none⟩ ∧ True := by
     rcases row_form O3.out with ⟨h1, h2⟩ | ⟨g, c, h1, _⟩
     ·omega
     ·cases h1; exact ⟨g, rfl, trivial⟩
    have gob : ¬ g = ob := OBT.out g rfl
    have q0 := kk2.cell (own_int O3.out ht) gob
    have Q0 := Lib.hid q0
    clear ht kk2
    go_wp2_with fail
    refine GO.out.mono ?_
    rintro e w5 ⟨v5, rfl, o5, k5⟩
    obtain ⟨a5, c5, rfl⟩ := own_slice o5
    have O5 := Lib.hid o5; have K5 := Lib.hid k5
    replace cb0 := k5.cell cb0 (fun f => f)
    replace q0 := k5.cell q0 (fun f => f)
    obtain ⟨n5, hn5⟩ : ∃ n, (ofTr t RR).length = n := ⟨_, rfl⟩
    have N5 := Lib.hid hn5
    rw [hn5] at O5
    rw [hn5]
    have cbo := fun o => ((Kept.refl (fun _ => False) w5).alloc o).cell cb0 (fun f => f)
    clear o5 k5 hn5 cb1 cb2
    go_wp2_with (at_builtin; refine stopH ?_)
    intro _
    have RY5 := Lib.hid (RY.out.kept K5.out (fun _ _ f => f))
    have KA := Lib.hid (((Kept.refl (fun _ => False) w5).alloc (Obj.cells #[.int .i64 t, .slice a5 n5 c5] 46)).alloc (Obj.cells #[.int .i64 t, .slice a5 n5 c5] 46))
    have YO := Lib.hid ((RY5.out.kept KA.out (fun _ _ f => f)).own)
    have YLY := YL.out
    rw [YLY] at YO
    refine wpList_append_own _ rfl _ _ 50 rfl w3.heap.size 46 i46 _ 2 32 Try.underlying50 hi0 hz0 hz1 hz2 rfl (by decide) (.slice ao y co) y _ rfl YO.out ⟨w5.heap.size + 1, 0, none⟩ 1 1 [.int .i64 t, .slice a5 n5 c5] rfl rfl (World.news_of_block (heap_second _ _ _)) ?qa ?qb ?qc ?qd ?_
    case qa => intro u hu; simp at hu; rcases hu with rfl | rfl <;> rfl
    case qb => unfold maxLen; omega
    case qc => omega
    case qd => have h2 := K5.out.size; have h3 := KA.out.size; have h4 := KK.out.size; omega
    intro v8 w8 own8 hg8 hn8
    obtain ⟨ao8, co8, rfl⟩ := own_slice own8
    have K8 := Lib.hid (show Kept (fun q => (Value.slice ao y co).ownBlock = some q) wr w8 from ((keptFF K5.out KA.out).mono (fun _ _ f => f.elim) : Kept (fun q => (Value.slice ao y co).ownBlock = some q) wr _).grown hg8 (fun q hq _ => hq))
    have O8 := Lib.hid own8
    have K58 := Lib.hid (show Kept (fun q => (Value.slice ao y co).ownBlock = some q) w5 w8 from (KA.out.mono (fun _ _ f => f.elim) : Kept (fun q => (Value.slice ao y co).ownBlock = some q) w5 _).grown hg8 (fun q hq _ => hq))
    have nob : ¬ (Value.slice ao y co).ownBlock = some ob := fun e => by have h1 := own_from RY.out.own e; have h2 := OBL.out; omega
    have ngb : ¬ (Value.slice ao y co).ownBlock = some g := fun e => by have h1 := own_from RY.out.own e; have h2 := own_lt2 O3.out (q := g) rfl; omega
    have d0 := K8.out.cell CB0.out nob
    have d1 := K8.out.cell CB1.out nob
    have d2 := K8.out.cell CB2.out nob
    have d3 := K8.out.cell Q0.out ngb
    have l0 := World.block_lt_of_cell? _ _ CB0.out
    have f0 := K8.out.frozen (FZ.out 0) l0 nob
    have f1 := K8.out.frozen (FZ.out 1) l0 nob
    have D0 := Lib.hid d0; have D1 := Lib.hid d1; have D2 := Lib.hid d2
    have F8 := Lib.hid (fun j => K8.out.frozen (FZ.out j) (show ob < wr.heap.size from l0) nob)
    clear own8 hg8 hn8 cbo cb0 q0 l0 nob ngb
    go_wp2
    have KS := Lib.hid (((Kept.refl (fun q => q = ob) w8).setCell (fun _ => rfl) (.slice ao8 (y + 1) co8) : Kept (fun q => q = ob) w8 (w8.setCell ⟨ob, 0, none⟩ _)).setCell (p := ⟨ob, 1, none⟩) (fun _ => rfl) (.int .i64 t))
    have s0 := World.cell?_setCell_same w8 ⟨ob, 0, none⟩ (.slice ao8 (y + 1) co8) D0.out
    have s1 : (w8.setCell ⟨ob, 0, none⟩ (.slice ao8 (y + 1) co8)).cell? ⟨ob, 1, none⟩ = some (.int .i64 (nextF a (T.take y))) := by rw [World.cell?_setCell_other _ _ _ _ (by simp)]; exact D1.out
    have s2 : (w8.setCell ⟨ob, 0, none⟩ (.slice ao8 (y + 1) co8)).cell? ⟨ob, 2, none⟩ = some (.bool false) := by rw [World.cell?_setCell_other _ _ _ _ (by simp)]; exact D2.out
    have t0 : ((w8.setCell ⟨ob, 0, none⟩ (.slice ao8 (y + 1) co8)).setCell ⟨ob, 1, none⟩ (.int .i64 t)).cell? ⟨ob, 0, none⟩ = some (.slice ao8 (y + 1) co8) := by rw [World.cell?_setCell_other _ _ _ _ (by simp)]; exact s0
    have t1 := World.cell?_setCell_same (w8.setCell ⟨ob, 0, none⟩ (.slice ao8 (y + 1) co8)) ⟨ob, 1, none⟩ (.int .i64 t) s1
    have t2 : ((w8.setCell ⟨ob, 0, none⟩ (.slice ao8 (y + 1) co8)).setCell ⟨ob, 1, none⟩ (.int .i64 t)).cell? ⟨ob, 2, none⟩ = some (.bool false) := by rw [World.cell?_setCell_other _ _ _ _ (by simp)]; exact s2
    go_roundg (m - y - 1)
    case measure => have := JI.out; omega
    case rel =>
     have e1 : nextF a (T.take (y + 1)) = t := by rw [TS.out]; simp [nextF]
     have o8 := O8.out
     have RP := RowsAt.push (t := t) (u := .slice a5 n5 c5) (L := ofTr t RR) RY.out K8.out (by rw [YL.out]; exact o8) (by rw [N5.out]; exact own_low (own_kept O5.out K58.out (fun q hq e => by have h1 := own_from O5.out hq; have h2 := own_lt2 RY.out.own e; omega)) KK.out.size) (fun q hq => own_from O5.out hq)
     refine ⟨y + 1, _, Y ++ [⟨t, .slice a5 n5 c5, ofTr t RR⟩], by have := JI.out; omega, by go_num, by omega, ?_, RP.kept KS.out (fun q hq e => by have := OBL.out; omega), t0, by rw [e1]; exact t1, t2, fun j => ?_, ?_⟩
     ·rw [stripR_append, HY.out, TS.out, List.map_append]; rfl
     ·rw [World.frozen?_setCell, World.frozen?_setCell]; exact F8.out j
     ·exact (KK.out.trans K8.out (fun _ _ h => h) (fun q hq e => by have := own_from RY.out.own e; omega) : Kept (fun q => q = ob) w3 w8).trans KS.out (fun _ _ h => h) (fun _ _ h => h)
   ·have e1 : ¬ (y : Int) < li := hli
    have i1 : (y : Int) < (m : Int) := by omega
    have TE := Lib.hid (show T.take y = T.take li.toNat from by rw [show y = li.toNat by omega])
    have ME := Lib.hid (show decide (li < (m : Int)) = decide (li.toNat < m) from decide_eq_decide.2 (by omega))
    obtain ⟨mb, hmb⟩ : ∃ c, decide (li < (m : Int)) = c := ⟨_, rfl⟩
    have dm : (li < (m : Int)) = (mb = true) := by rw [← hmb]; simp
    have MB := Lib.hid hmb
    have rbo : ¬ rb = ob := by have := RBO.out; omega
    have r0 := kk2.cell R0.out rbo
    have r1 := kk2.cell R1.out rbo
    have r2 := kk2.cell R2.out rbo
    have rf := kk2.frozen (RF.out 0) (World.block_lt_of_cell? _ _ R0.out) rbo
    have rf1 := kk2.frozen (RF.out 1) (World.block_lt_of_cell? _ _ R1.out) rbo
    have rf2 := kk2.frozen (RF.out 2) (World.block_lt_of_cell? _ _ R2.out) rbo
    have c0 := CB0.out; have c1 := CB1.out; have c2 := CB2.out; have f0 := FZ.out 0; have f1 := FZ.out 1; have f2 := FZ.out 2
    clear kk2 dm hmb
    go_wp2
    obtain ⟨w9, hw9⟩ : ∃ W, wr.setCell ⟨ob, 2, none⟩ (.bool (decide (li < (m : Int)))) = W := ⟨_, rfl⟩
    have KS := Lib.hid (show Kept (fun q => q = ob) wr w9 by rw [← hw9]; exact (Kept.refl (fun q => q = ob) wr).setCell (fun _ => rfl) _)
    rw [hw9]
    obtain ⟨s0, s1, s2, ks⟩ := box3 (.slice ao y co) (.int .i64 (nextF a (T.take y))) (.bool (decide (li < (m : Int)))) (KS.out.cell r0 rbo) (KS.out.cell r1 rbo) (KS.out.cell r2 rbo)
    refine bodyPost_ret (v := _) (by simp [results, Try.results19, go_sem, s0, s1, s2]; try rfl) rfl ?_
    have KF := kept_fresh KW.out KS.out (fun q e => by have := WR.out; have := RBO.out; omega)
    refine ⟨.slice ao y co, ?_, ?_, kept_fresh KF ks (fun q e => by have := WR.out; omega)⟩
    ·rw [← HNX.out, ← HMX.out, ← TE.out, MN.out, ← ME.out]
    ·have RF := (RY.out.kept KS.out (fun q hq e => by have := OBL.out; omega)).kept ks (fun q hq e => by have := OBL.out; have := RBO.out; omega)
     have := ReadsP.of_rows RF
     have e9 := HY.out
     rw [TE.out, HPX.out] at e9
     rw [e9] at this
     exact this
  ·have i1 : ¬ (y : Int) < (m : Int) := by omega
   have TE := Lib.hid (show T.take y = T.take li.toNat from by rw [List.take_of_length_le (by rw [MN.out]; omega), List.take_of_length_le (by rw [MN.out]; omega)])
   have ME := Lib.hid (show decide (li < (m : Int)) = decide (li.toNat < m) from decide_eq_decide.2 (by omega))
   obtain ⟨mb, hmb⟩ : ∃ c, decide (li < (m : Int)) = c := ⟨_, rfl⟩
   have dm : (li < (m : Int)) = (mb = true) := by rw [← hmb]; simp
   have MB := Lib.hid hmb
   have rbo : ¬ rb = ob := by have := RBO.out; omega
   have r0 := kk2.cell R0.out rbo
   have r1 := kk2.cell R1.out rbo
   have r2 := kk2.cell R2.out rbo
   have rf := kk2.frozen (RF.out 0) (World.block_lt_of_cell? _ _ R0.out) rbo
   have rf1 := kk2.frozen (RF.out 1) (World.block_lt_of_cell? _ _ R1.out) rbo
   have rf2 := kk2.frozen (RF.out 2) (World.block_lt_of_cell? _ _ R2.out) rbo
   have c0 := CB0.out; have c1 := CB1.out; have c2 := CB2.out; have f0 := FZ.out 0; have f1 := FZ.out 1; have f2 := FZ.out 2
   clear kk2 dm hmb
   go_wp2
   obtain ⟨w9, hw9⟩ : ∃ W, wr.setCell ⟨ob, 2, none⟩ (.bool (decide (li < (m : Int)))) = W := ⟨_, rfl⟩
   have KS := Lib.hid (show Kept (fun q => q = ob) wr w9 by rw [← hw9]; exact (Kept.refl (fun q => q = ob) wr).setCell (fun _ => rfl) _)
   rw [hw9]
   obtain ⟨s0, s1, s2, ks⟩ := box3 (.slice ao y co) (.int .i64 (nextF a (T.take y))) (.bool (decide (li < (m : Int)))) (KS.out.cell r0 rbo) (KS.out.cell r1 rbo) (KS.out.cell r2 rbo)
   refine bodyPost_ret (v := _) (by simp [results, Try.results19, go_sem, s0, s1, s2]; try rfl) rfl ?_
   have KF := kept_fresh KW.out KS.out (fun q e => by have := WR.out; have := RBO.out; omega)
   refine ⟨.slice ao y co, ?_, ?_, kept_fresh KF ks (fun q e => by have := WR.out; omega)⟩
   ·rw [← HNX.out, ← HMX.out, ← TE.out, MN.out, ← ME.out]
   ·have RF := (RY.out.kept KS.out (fun q hq e => by have := OBL.out; omega)).kept ks (fun q hq e => by have := OBL.out; have := RBO.out; omega)
    have := ReadsP.of_rows RF
    have e9 := HY.out
    rw [TE.out, HPX.out] at e9
    rw [e9] at this
    exact this
end Go.Proofs.Ytibakmchgppndaa
