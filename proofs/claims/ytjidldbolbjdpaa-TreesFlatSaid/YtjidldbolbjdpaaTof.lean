/- trees.Of. -/
import Derived.Test.YtjidldbolbjdpaaNode
namespace Go.Proofs.Ytjidldbolbjdpaa
open Go.RowKit

noncomputable def rootsL (R : List Spn) (m : Nat) : List Nat := (List.range m).filter (fun k => !hdF R k && (nth R k).pa == 0)
noncomputable def orphL (R : List Spn) (m : Nat) : List Nat := (List.range m).filter (fun k => hdF R k)
noncomputable def rootsF (R : List Spn) : Fr := forF (subF R (R.length + 1)) R (rootsL R R.length)
noncomputable def orphF (R : List Spn) : Fr := forF (subF R (R.length + 1)) R (orphL R R.length)
theorem rootsL_snoc {R : List Spn} {m : Nat} (h : hdF R m = false) (hp : (nth R m).pa = 0) : rootsL R (m + 1) = rootsL R m ++ [m] := by
  simp [rootsL, List.range_succ, List.filter_append, h, hp]
theorem rootsL_skip {R : List Spn} {m : Nat} (h : hdF R m = true ∨ (nth R m).pa ≠ 0) : rootsL R (m + 1) = rootsL R m := by
  rcases h with h | h
  · simp [rootsL, List.range_succ, List.filter_append, h]
  · simp [rootsL, List.range_succ, List.filter_append, h]
theorem orphL_snoc {R : List Spn} {m : Nat} (h : hdF R m = true) : orphL R (m + 1) = orphL R m ++ [m] := by
  simp [orphL, List.range_succ, List.filter_append, h]
theorem orphL_skip {R : List Spn} {m : Nat} (h : hdF R m = false) : orphL R (m + 1) = orphL R m := by
  simp [orphL, List.range_succ, List.filter_append, h]
theorem sz48 : (Try.prog.info? 48).map (·.size) = some 1 := by kernel_rfl
theorem tree_new (w : World) : (w.alloc (.cells #[.slice none 0 0, .slice none 0 0] 28)).ownsRow w.heap.size 28 2 (.slice (some ⟨w.heap.size, 0, none⟩) 1 1) 1 [.slice none 0 0, .slice none 0 0] := by
  have h := World.ownsRow_lit (e := 28) (size := 2) w #[.slice none 0 0, .slice none 0 0] 1 (Nat.le_refl w.heap.size) (by unfold maxLen; omega) rfl
  simpa using h
theorem thereN {w : World} {base e g k : Nat} {xs : List Value} (h : w.ownsRow base e k (.slice (some ⟨g, 0, none⟩) 1 1) 1 xs) : w.there g 0 k := by
  intro j hj
  have hl : xs.length = k := by simpa using h.1
  have := own_cellN h (List.getElem?_eq_getElem (show j < xs.length by omega))
  rw [Nat.zero_add]
  exact ⟨by rw [this]; rfl, h.frozenAt _⟩
theorem own_allN {w : World} {base e g k : Nat} {xs : List Value} (h : w.ownsRow base e k (.slice (some ⟨g, 0, none⟩) 1 1) 1 xs) (vs : List Value) (hv : vs.length = k) : (w.setCells g 0 vs).ownsRow base e k (.slice (some ⟨g, 0, none⟩) 1 1) 1 vs := by
  have := own_setL vs 0 h
  rwa [setL_all vs xs (by have h1 := h.1; simp at h1; omega)] at this
theorem info28 : (Try.prog.info? 28).map (·.size) = some 2 := by kernel_rfl
/-- What Of has laid ahead of its loop. -/
structure Laid2 (w1 w2 : World) (wb bw bn : Nat) : Prop where
  new : w1.heap.size = bw
  next : bn = bw + 1
  kept : Kept (fun _ => False) w1 w2
  size : w2.heap.size = bw + 2
  cb : w2.cell? ⟨bw, 0, none⟩ = some (.pointer (some ⟨wb, 0, none⟩))
  cn : w2.cell? ⟨bn, 0, none⟩ = some (.func (.func 24) #[] #[.pointer (some ⟨bw, 0, none⟩), .pointer (some ⟨bn, 0, none⟩)])
theorem pre2 (w1 : World) (wb : Nat) : ((w1.alloc (.cells #[.pointer (some ⟨wb, 0, none⟩)] 46)).alloc (.cells #[Value.nilFunc] 48)).ownsRow (w1.heap.size + 1) 48 1 (.slice (some ⟨w1.heap.size + 1, 0, none⟩) 1 1) 1 [Value.nilFunc] := by
  have s1 : (w1.alloc (.cells #[.pointer (some ⟨wb, 0, none⟩)] 46)).heap.size = w1.heap.size + 1 := Array.size_push _
  have h := World.ownsRow_lit (e := 48) (size := 1) (w1.alloc (.cells #[.pointer (some ⟨wb, 0, none⟩)] 46)) #[Value.nilFunc] 1 (Nat.le_refl _) (by unfold maxLen; omega) rfl
  rw [s1] at h
  simpa using h
theorem laid2 (w1 W : World) (wb : Nat) (hW : W = ((w1.alloc (.cells #[.pointer (some ⟨wb, 0, none⟩)] 46)).alloc (.cells #[Value.nilFunc] 48)).setCell ⟨w1.heap.size + 1, 0, none⟩ (.func (.func 24) #[] #[.pointer (some ⟨w1.heap.size, 0, none⟩), .pointer (some ⟨w1.heap.size + 1, 0, none⟩)])) : Laid2 w1 W wb w1.heap.size (w1.heap.size + 1) := by
  have s1 : (w1.alloc (.cells #[.pointer (some ⟨wb, 0, none⟩)] 46)).heap.size = w1.heap.size + 1 := Array.size_push _
  have s2 : ((w1.alloc (.cells #[.pointer (some ⟨wb, 0, none⟩)] 46)).alloc (.cells #[Value.nilFunc] 48)).heap.size = w1.heap.size + 2 := by
    rw [show ∀ (w : World) (o : Obj), (w.alloc o).heap.size = w.heap.size + 1 from fun _ _ => Array.size_push _, s1]
  have hk := kept_put ((w1.alloc (.cells #[.pointer (some ⟨wb, 0, none⟩)] 46)).alloc (.cells #[Value.nilFunc] 48)) (w1.heap.size + 1) 0 (.func (.func 24) #[] #[.pointer (some ⟨w1.heap.size, 0, none⟩), .pointer (some ⟨w1.heap.size + 1, 0, none⟩)])
  rw [← hW] at hk
  refine ⟨rfl, rfl, (((Kept.refl (fun _ => False) w1).alloc _).alloc _).trans hk (fun _ _ f => f) (fun k h e => by omega), ?_, ?_, ?_⟩
  · rw [← s2, hW]; simp [World.setCell]
  · exact hk.cell (((Kept.refl (fun _ => False) _).alloc _).cell (cell_new1 w1 _ 46) (fun f => f)) (by simp only; omega)
  · rw [hW]; exact own_cell (own_put (pre2 w1 wb) 0 _) rfl

set_option maxHeartbeats 8000000 in
set_option maxRecDepth 100000 in
theorem tof_any (w : World) (v : Value) (L : List Spn) (h : ReadsS w v L) (hl : L.length ≤ 1000) :
    Calls Try.prog 10 #[v] w fun e w' => ∃ rv ov, e = .returned (.agg #[rv, ov]) ∧ ReadsF (fun k => w.heap.size ≤ k) w' rv (rootsF (cntF L)) ∧ ReadsF (fun k => w.heap.size ≤ k) w' ov (orphF (cntF L)) ∧ Kept (fun _ => False) w w' := by
  obtain ⟨tb, htb⟩ : ∃ n, w.heap.size = n := ⟨_, rfl⟩
  obtain ⟨W1, hW1⟩ : ∃ W, w.alloc (.cells #[.slice none 0 0, .slice none 0 0] 28) = W := ⟨_, rfl⟩
  have K1 := Lib.hid (show Kept (fun _ => False) w W1 by rw [← hW1]; exact (Kept.refl _ w).alloc _)
  have T1 := Lib.hid (show W1.ownsRow tb 28 2 (.slice (some ⟨tb, 0, none⟩) 1 1) 1 [.slice none 0 0, .slice none 0 0] by rw [← hW1, ← htb]; exact tree_new w)
  have S1 := Lib.hid (show W1.heap.size = tb + 1 by rw [← hW1, ← htb]; exact Array.size_push _)
  have HTB := Lib.hid htb
  have HV := Lib.hid h
  clear h
  obtain ⟨i39, hi39, z39, s39, b39⟩ := info_parts inf39
  go_enter Try.func10, Try.ntmps10
  go_wp2_with fail
  clear hW1 htb
  refine (of_any W1 v L (HV.out.keptF K1.out) hl).mono ?_
  rintro e w1 ⟨wb, rfl, wd, k1⟩
  obtain ⟨R, hR⟩ : ∃ R, cntF L = R := ⟨_, rfl⟩
  rw [hR] at wd
  have hrl : R.length ≤ 1000 := by rw [← hR]; have := cntF_len L; omega
  obtain ⟨b, hb⟩ : ∃ b, W1.heap.size = b := ⟨_, rfl⟩
  rw [hb] at wd
  have HRR := Lib.hid hR; have HB := Lib.hid hb; have WD1 := Lib.hid wd; have K2 := Lib.hid k1
  obtain ⟨_, ⟨v0, c0, rv0⟩, ⟨gd, hgd, c2, fd⟩, _⟩ := wd
  obtain ⟨ao, cap, rfl, rdb⟩ := rv0
  obtain ⟨n, hn⟩ : ∃ n, R.length = n := ⟨_, rfl⟩
  have HN := Lib.hid hn
  have hnl : n ≤ 1000 := by omega
  rw [hn] at c0 c2 fd
  have b1 := World.block_lt_of_cell? _ _ c0
  simp only at b1
  have C0 := Lib.hid c0; have C2 := Lib.hid c2; have FD := Lib.hid fd; have RDB := Lib.hid rdb; have HGD := Lib.hid hgd
  clear c2 fd rdb hgd hR hb hn k1
  go_wp2_with (refine wpList_store1 (by rfl) 48 _ _ (by rfl) (w1.heap.size + 1) 0 (.func (.func 24) #[] #[.pointer (some ⟨w1.heap.size, 0, none⟩), .pointer (some ⟨w1.heap.size + 1, 0, none⟩)]) (by rfl) (by rfl) (by rw [own_cell (pre2 w1 wb) rfl]; rfl) ((pre2 w1 wb).frozenAt _) sz48 rfl rfl ?_; intro w2 hW; have ld := laid2 w1 w2 wb hW; obtain ⟨bw, hbw⟩ : ∃ r, w1.heap.size = r := ⟨_, rfl⟩; obtain ⟨bn, hbn⟩ : ∃ r, bw + 1 = r := ⟨_, rfl⟩; rw [hbw, hbn] at ld ⊢; have LD := Lib.hid ld; have d0 := ld.kept.cell c0 (fun f => f); have d1 := ld.cb; clear hW ld hbw hbn c0 b1)
  clear d0 d1
  obtain ⟨b0, hb0⟩ : ∃ b, w2.heap.size = b := ⟨_, rfl⟩
  have B2 := Lib.hid hb0
  clear hb0
  have NUM := Lib.hid (show w.heap.size = tb ∧ b = tb + 1 ∧ tb < b0 ∧ bn < b0 ∧ bw < b0 ∧ tb < bw ∧ b ≤ w1.heap.size from by
    have h1 := HTB.out; have h2 := S1.out; have h3 := HB.out; have h4 := K2.out.size; have h5 := LD.out.new; have h6 := LD.out.next; have h7 := LD.out.size; have h8 := B2.out
    omega)
  have TB := Lib.hid NUM.out.2.2.1
  have BN := Lib.hid NUM.out.2.2.2.1
  have TO0 := Lib.hid (own_keptS (own_keptS T1.out K2.out (fun _ _ f => f)) LD.out.kept (fun _ _ f => f))
  go_loopg [15] n (fun ghv s wr => ∃ (j : Nat) (rv ov : Value) (lr lo : List NR) (A : Nat → Prop), j + ghv = n ∧ s = .int .i64 j ∧ wr.ownsRow tb 28 2 (.slice (some ⟨tb, 0, none⟩) 1 1) 1 [rv, ov] ∧ Grown b0 A wr rv lr ∧ Grown b0 A wr ov lo ∧ (∀ k, rv.ownBlock = some k → ov.ownBlock ≠ some k) ∧ (∀ k, A k → k < wr.heap.size) ∧ lr.length ≤ j ∧ lo.length ≤ j ∧ frN lr = forF (subF R (R.length + 1)) R (rootsL R j) ∧ frN lo = forF (subF R (R.length + 1)) R (orphL R j) ∧ Kept (fun k => k = tb) w2 wr)
  case atStart => exact ⟨0, .slice none 0 0, .slice none 0 0, [], [], fun _ => False, by omega, by go_num, TO0.out, Grown.nil _ _ _, Grown.nil _ _ _, fun _ h => (by cases h), fun _ f => f.elim, Nat.le_refl _, Nat.le_refl _, rfl, rfl, Kept.refl _ _⟩
  case round =>
    obtain ⟨j, rv, ov, lr, lo, A, hg1, rfl, hto, hgr, hgo, hap, hA, hlr, hlo, hfr, hfo, hk⟩ := hrel
    have G1 := Lib.hid hg1; have TOr := Lib.hid hto; have GRRr := Lib.hid hgr; have GROr := Lib.hid hgo; have AP := Lib.hid hap; have HAr := Lib.hid hA; have LR := Lib.hid hlr; have LO := Lib.hid hlo; have FRR := Lib.hid hfr; have FRO := Lib.hid hfo; have KKr := Lib.hid hk
    clear hg1 hto hgr hgo hap hA hlr hlo hfr hfo hk
    by_cases hjn : j < n
    · have j0 : (j : Int) < (n : Int) := by omega
      have j1 : (0 : Int) ≤ (j : Int) := by omega
      have e1 : IntKind.i64.wrap ((j : Int) + 1) = ((j + 1 : Nat) : Int) := IntWalk.i64_in _ (by omega)
      have hjl : j < R.length := by rw [HN.out]; exact hjn
      have HJL := Lib.hid hjl
      have OLDr := Lib.hid (show ∀ a u, w1.cell? a = some u → a.block ≠ tb → wr.cell? a = some u from fun a u h hne => KKr.out.cell (LD.out.kept.cell h (fun f => f)) hne)
      obtain ⟨g, o, rfl, hgb, hc⟩ : ∃ g o, ao = some ⟨g, o, none⟩ ∧ b ≤ g ∧ ∀ j u, (cellsS R)[j]? = some u → w1.cell? ⟨g, o + j, none⟩ = some u := by
        rcases RDB.out with h | h
        · subst h; simp at hjl
        · exact h
      obtain ⟨y, hy⟩ : ∃ y, nth R j = y := ⟨_, rfl⟩
      have gy := nth_get hjl
      rw [hy] at gy
      have ry := ReadsS.range (fun j u hu => OLDr.out _ _ (hc j u hu) (by have := NUM.out; simp only; omega)) gy
      have HY := Lib.hid hy
      clear hy gy hc hjl hgb
      have FDJ := Lib.hid (FD.out j hjn)
      cases hh : hdF R j with
      | true =>
        rw [hh] at FDJ
        have HH := Lib.hid hh
        clear hh
        go_wp2_with (first | (refine wpList_load_mid (by rfl) 24 _ (by rfl) g (o + j * 8) (by rfl) y.cells _ ry Try.underlying24 rfl info24 ?_) | (refine wpList_store_letter (by rfl) 24 _ _ (by rfl) wr.heap.size 0 y.cells.toArray (by rfl) (by rfl) (own_there (copy_own wr) (i := 0) (by simp)) info24 (cells_all y) ?_; intro W hW; obtain ⟨sb, cpd⟩ := copied wr W y hW; have CP := Lib.hid cpd; have hnew := cpd.new; rw [hnew] at *; clear cpd hW hnew; have d0 := CP.out.kept.cell (OLDr.out _ _ C2.out (by have h1 := NUM.out; have h2 := WD1.out.new; simp only; omega)) (fun f => f); have d1 := CP.out.kept.cell (OLDr.out _ _ FDJ.out (by have h1 := NUM.out; have h2 := HGD.out; simp only; omega)) (fun f => f); have d3 := CP.out.at_ 2 _ rfl; have d2 := CP.out.kept.cell (KKr.out.cell LD.out.cb (by have h1 := NUM.out; simp only; omega)) (fun f => f)))
        have TO := Lib.hid (own_keptS TOr.out CP.out.kept (fun _ _ f => f))
        have GRR := Lib.hid (GRRr.out.keep CP.out.kept (fun _ _ f => f.elim))
        have GRO := Lib.hid (GROr.out.keep CP.out.kept (fun _ _ f => f.elim))
        have HA := Lib.hid (show ∀ k, A k → k < W.heap.size from fun k h => by have h1 := HAr.out k h; have h2 := CP.out.kept.size; omega)
        have KK := Lib.hid (KKr.out.trans CP.out.kept (fun _ _ h => h) (fun _ _ f => f.elim) : Kept (fun k => k = tb) w2 W)
        have CB := Lib.hid (CP.out.kept.cell (KKr.out.cell LD.out.cb (by have h1 := NUM.out; simp only; omega)) (fun f => f))
        have CN := Lib.hid (CP.out.kept.cell (KKr.out.cell LD.out.cn (by have h1 := NUM.out; have h2 := LD.out.next; simp only; omega)) (fun f => f))
        have B0 := Lib.hid (show b0 ≤ W.heap.size from by have h1 := B2.out; have h2 := KK.out.size; omega)
        have WD := Lib.hid (((WD1.out.kept LD.out.kept).keptT KK.out (fun k e => by have := NUM.out; omega)))
        have hjl := HJL.out
        have SS := Lib.hid (show ∀ w', Kept (fun _ => False) W w' → w'.cell? ⟨tb, 1, none⟩ = some ov ∧ w'.cell? ⟨bn, 0, none⟩ = some (.func (.func 24) #[] #[.pointer (some ⟨bw, 0, none⟩), .pointer (some ⟨bn, 0, none⟩)]) from fun w' k => ⟨k.cell (own_cellN TO.out (i := 1) rfl) (fun f => f), k.cell CN.out (fun f => f)⟩)
        have hkvs : ∃ a' c', ov = .slice a' lo.length c' := by
          rcases row_form GRO.out.row with ⟨q1, q2⟩ | ⟨g', c', q1, _⟩
          · exact ⟨none, 0, by rw [q1, q2]⟩
          · exact ⟨_, _, q1⟩
        refine wp_region_last 8 (fun w' => w'.cell? ⟨tb, 1, none⟩ = some ov ∧ w'.cell? ⟨bn, 0, none⟩ = some (.func (.func 24) #[] #[.pointer (some ⟨bw, 0, none⟩), .pointer (some ⟨bn, 0, none⟩)])) (by kernel_rfl) ?_
        have k0 := (Kept.refl (fun _ => False) W).drew
        have hHeld := SS.out _ k0
        simp only [List.size_toArray, List.length_cons, List.length_nil, Nat.zero_add, Nat.reduceAdd]
        refine wpAnyF_take (i := 0) (v := ?_) opAt0 (by kernel_rfl) (by kernel_rfl) (by kernel_rfl) (by kernel_rfl) (by decide) (fun _ _ _ h => h) (Or.inl ⟨by rfl, ?_⟩) hHeld ?_
        case refine_2 => (intro w hSw; (try dsimp only at hSw); go_simp; all_goals (with_reducible rfl))
        (try simp only [Act.put]); (try simp only [List.setIfInBounds_toArray]); (try simp only [List.set_cons_succ]); (try simp only [List.set_cons_zero])
        refine wpAnyF_take (i := 1) (v := ?_) opAt1 (by kernel_rfl) (by kernel_rfl) (by kernel_rfl) (by kernel_rfl) (by decide) (fun _ _ _ h => h) (Or.inl ⟨by rfl, ?_⟩) hHeld ?_
        case refine_2 => (intro w hSw; (try dsimp only at hSw); go_simp; all_goals (with_reducible rfl))
        (try simp only [Act.put]); (try simp only [List.setIfInBounds_toArray]); (try simp only [List.set_cons_succ]); (try simp only [List.set_cons_zero])
        refine wpAnyF_take (i := 2) (v := ?_) opAt2 (by kernel_rfl) (by kernel_rfl) (by kernel_rfl) (by kernel_rfl) (by decide) (fun _ _ _ h => h) (Or.inl ⟨by rfl, ?_⟩) hHeld ?_
        case refine_2 => (intro w hSw; (try dsimp only at hSw); go_simp; all_goals (with_reducible rfl))
        (try simp only [Act.put]); (try simp only [List.setIfInBounds_toArray]); (try simp only [List.set_cons_succ]); (try simp only [List.set_cons_zero])
        refine wpAnyF_take (i := 3) (v := ?_) opAt3 (by kernel_rfl) (by kernel_rfl) (by kernel_rfl) (by kernel_rfl) (by decide) (fun _ _ _ h => h) (Or.inl ⟨by rfl, ?_⟩) hHeld ?_
        case refine_2 => (intro w hSw; (try dsimp only at hSw); go_simp; all_goals (with_reducible rfl))
        (try simp only [Act.put]); (try simp only [List.setIfInBounds_toArray]); (try simp only [List.set_cons_succ]); (try simp only [List.set_cons_zero])
        refine next1 4 (by kernel_rfl) opAt4 fun K' hK => ?_
        go_simp
        go_at_call 24
        refine (node_any R hrl (R.length + 1) _ b j bw bn wb (low_all R hjl) hjl (k0.cell CB.out (fun f => f)) hHeld.2 (WD.out.kept k0)).mono ?_
        rintro e w5 ⟨v5, rfl, rv5, k5⟩
        obtain ⟨a5, c5, ev, _⟩ := id rv5
        obtain ⟨n5, hn5⟩ : ∃ n, (subF R (R.length + 1) j).len = n := ⟨_, rfl⟩
        rw [hn5] at ev
        subst ev
        clear hn5
        rw [HY.out, nodeVal]
        have K5 := Lib.hid (keptFF k0 k5)
        have RV := Lib.hid rv5
        clear k5 rv5
        dsimp only
        have hHeld := SS.out _ K5.out
        refine hK _ _ ⟨fun _ => hHeld, ?_⟩
        clear hK K'
        (try simp only [Act.put]); (try simp only [List.setIfInBounds_toArray]); (try simp only [List.set_cons_succ]); (try simp only [List.set_cons_zero])
        refine next1 5 (by kernel_rfl) opAt5 fun K' hK => ?_
        go_simp
        have hHeld := SS.out (w5.alloc (.cells (y.cells ++ [Value.slice a5 n5 c5]).toArray 39)) (K5.out.alloc _)
        refine hK _ _ ⟨fun _ => hHeld, ?_⟩
        clear hK K'
        (try simp only [Act.put]); (try simp only [List.setIfInBounds_toArray]); (try simp only [List.set_cons_succ]); (try simp only [List.set_cons_zero])
        refine next1 6 (by kernel_rfl) opAt6 fun K' hK => ?_
        refine step_app (by rfl) _ _ 26 (by rfl) b0 39 i39 _ 9 112 Try.underlying26 hi39 z39 s39 b39 (by rfl) (by decide) ov lo.length _ (by rfl) ((own_keptS GRO.out.row K5.out (fun _ _ f => f)).alloc _) ⟨_, 0, none⟩ 1 1 (y.cells ++ [Value.slice a5 n5 c5]) (by rfl) (by rfl) ?_ ?_ ?_ ?_ ?_ ?_
        · exact World.news_of_block (heap_alloc_new _ _)
        · intro u hu; simp [Spn.cells] at hu; rcases hu with rfl | rfl | rfl | rfl | rfl | rfl | rfl | rfl | rfl <;> rfl
        · have := LO.out; unfold maxLen; omega
        · have := LO.out; omega
        · have h1 := B0.out; have h3 := K5.out.size; simp; omega
        intro ao' cap' w6 hown hgr hat
        have KV := Lib.hid (((Kept.refl (fun _ => False) w5).alloc _).trans (grown_kept hgr) (fun _ _ f => f.elim) (fun _ _ h => h) : Kept (fun k => ov.ownBlock = some k) w5 w6)
        have HAT := Lib.hid (show (Value.slice ao' (lo.length + 1) cap').ownBlock = ov.ownBlock ∨ ∃ b, (Value.slice ao' (lo.length + 1) cap').ownBlock = some b ∧ w5.heap.size ≤ b from hat.imp id (fun e => ⟨_, e, by simp⟩))
        have G2 := Lib.hid (GRO.out.push HA.out B0.out K5.out RV.out KV.out hown HAT.out)
        have GO2 := Lib.hid (GRR.out.beside (nv := .slice ao' (lo.length + 1) cap') K5.out KV.out (fun k hk => ⟨GRO.out.own k hk, fun e => AP.out k e hk⟩) HAT.out)
        have SZ := Lib.hid (show ∀ k, (A k ∨ (Value.slice ao' (lo.length + 1) cap').ownBlock = some k) → k < w6.heap.size from fun k hk => hk.elim (fun h => by have h1 := HA.out k h; have h2 := K5.out.size; have h3 := KV.out.size; omega) (fun h => (own_lt hown h).2))
        have AP2 := Lib.hid (show ∀ k, rv.ownBlock = some k → (Value.slice ao' (lo.length + 1) cap').ownBlock ≠ some k from fun k hk e => HAT.out.elim (fun h => AP.out k hk (h ▸ e)) (fun ⟨b', h, hb⟩ => by have h1 := own_lt GRR.out.row hk; have h2 := K5.out.size; rw [h] at e; cases e; omega))
        clear hown hgr hat
        have hHeld := (⟨KV.out.cell (SS.out _ K5.out).1 (fun e => by have h1 := own_lt GRO.out.row e; have h2 := TB.out; simp only at h1; omega), KV.out.cell (SS.out _ K5.out).2 (fun e => by have h1 := own_lt GRO.out.row e; have h2 := BN.out; simp only at h1; omega)⟩ : w6.cell? ⟨tb, 1, none⟩ = some ov ∧ w6.cell? ⟨bn, 0, none⟩ = some (.func (.func 24) #[] #[.pointer (some ⟨bw, 0, none⟩), .pointer (some ⟨bn, 0, none⟩)]))
        refine hK _ _ ⟨fun _ => hHeld, ?_⟩
        clear hK K'
        (try simp only [Act.put]); (try simp only [List.setIfInBounds_toArray]); (try simp only [List.set_cons_succ]); (try simp only [List.set_cons_zero])
        refine wpAnyF_take (i := 7) (v := ?_) opAt7 (by kernel_rfl) (by kernel_rfl) (by kernel_rfl) (by kernel_rfl) (by decide) (fun _ _ _ h => h) (Or.inl ⟨by rfl, ?_⟩) hHeld ?_
        case refine_2 => (intro w hSw; (try dsimp only at hSw); go_simp; all_goals (with_reducible rfl))
        (try simp only [Act.put]); (try simp only [List.setIfInBounds_toArray]); (try simp only [List.set_cons_succ]); (try simp only [List.set_cons_zero])
        refine next1 8 (by kernel_rfl) opAt8 fun K' hK => ?_
        have TO6 := Lib.hid (own_keptS (own_keptS TO.out K5.out (fun _ _ f => f)) KV.out (fun b hb e => by have h1 := own_lt GRO.out.row e; have h2 := TB.out; cases hb; simp only at h1; omega))
        refine step_store1 (by rfl) 26 _ _ (by rfl) tb 1 (.slice ao' (lo.length + 1) cap') (by rfl) (by rfl) (by rw [hHeld.1]; rfl) (TO6.out.frozenAt _) sz26 rfl rfl ?_
        intro W2 hW2
        have TO2 := Lib.hid (show W2.ownsRow tb 28 2 (.slice (some ⟨tb, 0, none⟩) 1 1) 1 [rv, .slice ao' (lo.length + 1) cap'] from by rw [hW2]; exact own_putN TO6.out 1 _)
        have KP := Lib.hid (show Kept (fun k => k = tb) w6 W2 from by rw [hW2]; exact kept_put w6 tb 1 _)
        have G3 := Lib.hid (G2.out.keep KP.out (fun k _ e => by have := TB.out; omega))
        have GO3 := Lib.hid (GO2.out.keep KP.out (fun k _ e => by have := TB.out; omega))
        have KK2 := Lib.hid (((KK.out.trans K5.out (fun _ _ h => h) (fun _ _ f => f.elim) : Kept (fun k => k = tb) w2 w5).trans KV.out (fun _ _ h => h) (fun k h1 h2 => by have h3 := own_lt GRO.out.row h2; have h4 := B2.out; omega) : Kept (fun k => k = tb) w2 w6).trans KP.out (fun _ _ h => h) (fun _ _ h => h) : Kept (fun k => k = tb) w2 W2)
        clear hW2
        refine hK _ _ ⟨fun h => absurd rfl h, ?_⟩
        clear hK K'
        (try simp only [Act.put]); (try simp only [List.setIfInBounds_toArray]); (try simp only [List.set_cons_succ]); (try simp only [List.set_cons_zero])
        refine wpAnyF_done (by kernel_rfl) ?_ _
        go_wp2
        go_roundg (n - (j + 1))
        case measure => have := G1.out; omega
        case rel => exact ⟨j + 1, rv, _, lr, _, _, by omega, by go_num, TO2.out, GO3.out, G3.out, AP2.out, fun k hk => by have h1 := SZ.out k hk; have h2 := KP.out.size; omega, by have := LR.out; omega, by have := LO.out; simp; omega, by rw [rootsL_skip (.inl HH.out)]; exact FRR.out, by rw [orphL_snoc HH.out, frN_app, FRO.out, forF_app]; simp only [frN, forF, HY.out], KK2.out⟩
      | false =>
        rw [hh] at FDJ
        have HH := Lib.hid hh
        clear hh
        by_cases pz : y.pa = 0
        · have pz1 : (y.pa == 0) = true := by simp [pz]
          have PZ := Lib.hid pz
          clear pz
          go_wp2_with (first | (refine wpList_load_mid (by rfl) 24 _ (by rfl) g (o + j * 8) (by rfl) y.cells _ ry Try.underlying24 rfl info24 ?_) | (refine wpList_store_letter (by rfl) 24 _ _ (by rfl) wr.heap.size 0 y.cells.toArray (by rfl) (by rfl) (own_there (copy_own wr) (i := 0) (by simp)) info24 (cells_all y) ?_; intro W hW; obtain ⟨sb, cpd⟩ := copied wr W y hW; have CP := Lib.hid cpd; have hnew := cpd.new; rw [hnew] at *; clear cpd hW hnew; have d0 := CP.out.kept.cell (OLDr.out _ _ C2.out (by have h1 := NUM.out; have h2 := WD1.out.new; simp only; omega)) (fun f => f); have d1 := CP.out.kept.cell (OLDr.out _ _ FDJ.out (by have h1 := NUM.out; have h2 := HGD.out; simp only; omega)) (fun f => f); have d3 := CP.out.at_ 2 _ rfl; have d2 := CP.out.kept.cell (KKr.out.cell LD.out.cb (by have h1 := NUM.out; simp only; omega)) (fun f => f)))
          have TO := Lib.hid (own_keptS TOr.out CP.out.kept (fun _ _ f => f))
          have GRR := Lib.hid (GRRr.out.keep CP.out.kept (fun _ _ f => f.elim))
          have GRO := Lib.hid (GROr.out.keep CP.out.kept (fun _ _ f => f.elim))
          have HA := Lib.hid (show ∀ k, A k → k < W.heap.size from fun k h => by have h1 := HAr.out k h; have h2 := CP.out.kept.size; omega)
          have KK := Lib.hid (KKr.out.trans CP.out.kept (fun _ _ h => h) (fun _ _ f => f.elim) : Kept (fun k => k = tb) w2 W)
          have CB := Lib.hid (CP.out.kept.cell (KKr.out.cell LD.out.cb (by have h1 := NUM.out; simp only; omega)) (fun f => f))
          have CN := Lib.hid (CP.out.kept.cell (KKr.out.cell LD.out.cn (by have h1 := NUM.out; have h2 := LD.out.next; simp only; omega)) (fun f => f))
          have B0 := Lib.hid (show b0 ≤ W.heap.size from by have h1 := B2.out; have h2 := KK.out.size; omega)
          have WD := Lib.hid (((WD1.out.kept LD.out.kept).keptT KK.out (fun k e => by have := NUM.out; omega)))
          have hjl := HJL.out
          have SS := Lib.hid (show ∀ w', Kept (fun _ => False) W w' → w'.cell? ⟨tb, 0, none⟩ = some rv ∧ w'.cell? ⟨bn, 0, none⟩ = some (.func (.func 24) #[] #[.pointer (some ⟨bw, 0, none⟩), .pointer (some ⟨bn, 0, none⟩)]) from fun w' k => ⟨k.cell (own_cellN TO.out (i := 0) rfl) (fun f => f), k.cell CN.out (fun f => f)⟩)
          have hkvs : ∃ a' c', rv = .slice a' lr.length c' := by
            rcases row_form GRR.out.row with ⟨q1, q2⟩ | ⟨g', c', q1, _⟩
            · exact ⟨none, 0, by rw [q1, q2]⟩
            · exact ⟨_, _, q1⟩
          refine wp_region_last 8 (fun w' => w'.cell? ⟨tb, 0, none⟩ = some rv ∧ w'.cell? ⟨bn, 0, none⟩ = some (.func (.func 24) #[] #[.pointer (some ⟨bw, 0, none⟩), .pointer (some ⟨bn, 0, none⟩)])) (by kernel_rfl) ?_
          have k0 := (Kept.refl (fun _ => False) W).drew
          have hHeld := SS.out _ k0
          simp only [List.size_toArray, List.length_cons, List.length_nil, Nat.zero_add, Nat.reduceAdd]
          refine wpAnyF_take (i := 0) (v := ?_) opAt0 (by kernel_rfl) (by kernel_rfl) (by kernel_rfl) (by kernel_rfl) (by decide) (fun _ _ _ h => h) (Or.inl ⟨by rfl, ?_⟩) hHeld ?_
          case refine_2 => (intro w hSw; (try dsimp only at hSw); go_simp; all_goals (with_reducible rfl))
          (try simp only [Act.put]); (try simp only [List.setIfInBounds_toArray]); (try simp only [List.set_cons_succ]); (try simp only [List.set_cons_zero])
          refine wpAnyF_take (i := 1) (v := ?_) opAt1 (by kernel_rfl) (by kernel_rfl) (by kernel_rfl) (by kernel_rfl) (by decide) (fun _ _ _ h => h) (Or.inl ⟨by rfl, ?_⟩) hHeld ?_
          case refine_2 => (intro w hSw; (try dsimp only at hSw); go_simp; all_goals (with_reducible rfl))
          (try simp only [Act.put]); (try simp only [List.setIfInBounds_toArray]); (try simp only [List.set_cons_succ]); (try simp only [List.set_cons_zero])
          refine wpAnyF_take (i := 2) (v := ?_) opAt2 (by kernel_rfl) (by kernel_rfl) (by kernel_rfl) (by kernel_rfl) (by decide) (fun _ _ _ h => h) (Or.inl ⟨by rfl, ?_⟩) hHeld ?_
          case refine_2 => (intro w hSw; (try dsimp only at hSw); go_simp; all_goals (with_reducible rfl))
          (try simp only [Act.put]); (try simp only [List.setIfInBounds_toArray]); (try simp only [List.set_cons_succ]); (try simp only [List.set_cons_zero])
          refine wpAnyF_take (i := 3) (v := ?_) opAt3 (by kernel_rfl) (by kernel_rfl) (by kernel_rfl) (by kernel_rfl) (by decide) (fun _ _ _ h => h) (Or.inl ⟨by rfl, ?_⟩) hHeld ?_
          case refine_2 => (intro w hSw; (try dsimp only at hSw); go_simp; all_goals (with_reducible rfl))
          (try simp only [Act.put]); (try simp only [List.setIfInBounds_toArray]); (try simp only [List.set_cons_succ]); (try simp only [List.set_cons_zero])
          refine next1 4 (by kernel_rfl) opAt4 fun K' hK => ?_
          go_simp
          go_at_call 24
          refine (node_any R hrl (R.length + 1) _ b j bw bn wb (low_all R hjl) hjl (k0.cell CB.out (fun f => f)) hHeld.2 (WD.out.kept k0)).mono ?_
          rintro e w5 ⟨v5, rfl, rv5, k5⟩
          obtain ⟨a5, c5, ev, _⟩ := id rv5
          obtain ⟨n5, hn5⟩ : ∃ n, (subF R (R.length + 1) j).len = n := ⟨_, rfl⟩
          rw [hn5] at ev
          subst ev
          clear hn5
          rw [HY.out, nodeVal]
          have K5 := Lib.hid (keptFF k0 k5)
          have RV := Lib.hid rv5
          clear k5 rv5
          dsimp only
          have hHeld := SS.out _ K5.out
          refine hK _ _ ⟨fun _ => hHeld, ?_⟩
          clear hK K'
          (try simp only [Act.put]); (try simp only [List.setIfInBounds_toArray]); (try simp only [List.set_cons_succ]); (try simp only [List.set_cons_zero])
          refine next1 5 (by kernel_rfl) opAt5 fun K' hK => ?_
          go_simp
          have hHeld := SS.out (w5.alloc (.cells (y.cells ++ [Value.slice a5 n5 c5]).toArray 39)) (K5.out.alloc _)
          refine hK _ _ ⟨fun _ => hHeld, ?_⟩
          clear hK K'
          (try simp only [Act.put]); (try simp only [List.setIfInBounds_toArray]); (try simp only [List.set_cons_succ]); (try simp only [List.set_cons_zero])
          refine next1 6 (by kernel_rfl) opAt6 fun K' hK => ?_
          refine step_app (by rfl) _ _ 26 (by rfl) b0 39 i39 _ 9 112 Try.underlying26 hi39 z39 s39 b39 (by rfl) (by decide) rv lr.length _ (by rfl) ((own_keptS GRR.out.row K5.out (fun _ _ f => f)).alloc _) ⟨_, 0, none⟩ 1 1 (y.cells ++ [Value.slice a5 n5 c5]) (by rfl) (by rfl) ?_ ?_ ?_ ?_ ?_ ?_
          · exact World.news_of_block (heap_alloc_new _ _)
          · intro u hu; simp [Spn.cells] at hu; rcases hu with rfl | rfl | rfl | rfl | rfl | rfl | rfl | rfl | rfl <;> rfl
          · have := LR.out; unfold maxLen; omega
          · have := LR.out; omega
          · have h1 := B0.out; have h3 := K5.out.size; simp; omega
          intro ao' cap' w6 hown hgr hat
          have KV := Lib.hid (((Kept.refl (fun _ => False) w5).alloc _).trans (grown_kept hgr) (fun _ _ f => f.elim) (fun _ _ h => h) : Kept (fun k => rv.ownBlock = some k) w5 w6)
          have HAT := Lib.hid (show (Value.slice ao' (lr.length + 1) cap').ownBlock = rv.ownBlock ∨ ∃ b, (Value.slice ao' (lr.length + 1) cap').ownBlock = some b ∧ w5.heap.size ≤ b from hat.imp id (fun e => ⟨_, e, by simp⟩))
          have G2 := Lib.hid (GRR.out.push HA.out B0.out K5.out RV.out KV.out hown HAT.out)
          have GO2 := Lib.hid (GRO.out.beside (nv := .slice ao' (lr.length + 1) cap') K5.out KV.out (fun k hk => ⟨GRR.out.own k hk, fun e => AP.out k hk e⟩) HAT.out)
          have SZ := Lib.hid (show ∀ k, (A k ∨ (Value.slice ao' (lr.length + 1) cap').ownBlock = some k) → k < w6.heap.size from fun k hk => hk.elim (fun h => by have h1 := HA.out k h; have h2 := K5.out.size; have h3 := KV.out.size; omega) (fun h => (own_lt hown h).2))
          have AP2 := Lib.hid (show ∀ k, ov.ownBlock = some k → (Value.slice ao' (lr.length + 1) cap').ownBlock ≠ some k from fun k hk e => HAT.out.elim (fun h => AP.out k (h ▸ e) hk) (fun ⟨b', h, hb⟩ => by have h1 := own_lt GRO.out.row hk; have h2 := K5.out.size; rw [h] at e; cases e; omega))
          clear hown hgr hat
          have hHeld := (⟨KV.out.cell (SS.out _ K5.out).1 (fun e => by have h1 := own_lt GRR.out.row e; have h2 := TB.out; simp only at h1; omega), KV.out.cell (SS.out _ K5.out).2 (fun e => by have h1 := own_lt GRR.out.row e; have h2 := BN.out; simp only at h1; omega)⟩ : w6.cell? ⟨tb, 0, none⟩ = some rv ∧ w6.cell? ⟨bn, 0, none⟩ = some (.func (.func 24) #[] #[.pointer (some ⟨bw, 0, none⟩), .pointer (some ⟨bn, 0, none⟩)]))
          refine hK _ _ ⟨fun _ => hHeld, ?_⟩
          clear hK K'
          (try simp only [Act.put]); (try simp only [List.setIfInBounds_toArray]); (try simp only [List.set_cons_succ]); (try simp only [List.set_cons_zero])
          refine wpAnyF_take (i := 7) (v := ?_) opAt7 (by kernel_rfl) (by kernel_rfl) (by kernel_rfl) (by kernel_rfl) (by decide) (fun _ _ _ h => h) (Or.inl ⟨by rfl, ?_⟩) hHeld ?_
          case refine_2 => (intro w hSw; (try dsimp only at hSw); go_simp; all_goals (with_reducible rfl))
          (try simp only [Act.put]); (try simp only [List.setIfInBounds_toArray]); (try simp only [List.set_cons_succ]); (try simp only [List.set_cons_zero])
          refine next1 8 (by kernel_rfl) opAt8 fun K' hK => ?_
          have TO6 := Lib.hid (own_keptS (own_keptS TO.out K5.out (fun _ _ f => f)) KV.out (fun b hb e => by have h1 := own_lt GRR.out.row e; have h2 := TB.out; cases hb; simp only at h1; omega))
          refine step_store1 (by rfl) 26 _ _ (by rfl) tb 0 (.slice ao' (lr.length + 1) cap') (by rfl) (by rfl) (by rw [hHeld.1]; rfl) (TO6.out.frozenAt _) sz26 rfl rfl ?_
          intro W2 hW2
          have TO2 := Lib.hid (show W2.ownsRow tb 28 2 (.slice (some ⟨tb, 0, none⟩) 1 1) 1 [.slice ao' (lr.length + 1) cap', ov] from by rw [hW2]; exact own_putN TO6.out 0 _)
          have KP := Lib.hid (show Kept (fun k => k = tb) w6 W2 from by rw [hW2]; exact kept_put w6 tb 0 _)
          have G3 := Lib.hid (G2.out.keep KP.out (fun k _ e => by have := TB.out; omega))
          have GO3 := Lib.hid (GO2.out.keep KP.out (fun k _ e => by have := TB.out; omega))
          have KK2 := Lib.hid (((KK.out.trans K5.out (fun _ _ h => h) (fun _ _ f => f.elim) : Kept (fun k => k = tb) w2 w5).trans KV.out (fun _ _ h => h) (fun k h1 h2 => by have h3 := own_lt GRR.out.row h2; have h4 := B2.out; omega) : Kept (fun k => k = tb) w2 w6).trans KP.out (fun _ _ h => h) (fun _ _ h => h) : Kept (fun k => k = tb) w2 W2)
          clear hW2
          refine hK _ _ ⟨fun h => absurd rfl h, ?_⟩
          clear hK K'
          (try simp only [Act.put]); (try simp only [List.setIfInBounds_toArray]); (try simp only [List.set_cons_succ]); (try simp only [List.set_cons_zero])
          refine wpAnyF_done (by kernel_rfl) ?_ _
          go_wp2
          go_roundg (n - (j + 1))
          case measure => have := G1.out; omega
          case rel => exact ⟨j + 1, _, ov, _, lo, _, by omega, by go_num, TO2.out, G3.out, GO3.out, fun k h1 h2 => AP2.out k h2 h1, fun k hk => by have h1 := SZ.out k hk; have h2 := KP.out.size; omega, by have := LR.out; simp; omega, by have := LO.out; omega, by rw [rootsL_snoc HH.out (by rw [HY.out]; exact PZ.out), frN_app, FRR.out, forF_app]; simp only [frN, forF, HY.out], by rw [orphL_skip HH.out]; exact FRO.out, KK2.out⟩
        · have pz1 : (y.pa == 0) = false := by simp [pz]
          have PZ := Lib.hid pz
          clear pz
          go_wp2_with (first | (refine wpList_load_mid (by rfl) 24 _ (by rfl) g (o + j * 8) (by rfl) y.cells _ ry Try.underlying24 rfl info24 ?_) | (refine wpList_store_letter (by rfl) 24 _ _ (by rfl) wr.heap.size 0 y.cells.toArray (by rfl) (by rfl) (own_there (copy_own wr) (i := 0) (by simp)) info24 (cells_all y) ?_; intro W hW; obtain ⟨sb, cpd⟩ := copied wr W y hW; have CP := Lib.hid cpd; have hnew := cpd.new; rw [hnew] at *; clear cpd hW hnew; have d0 := CP.out.kept.cell (OLDr.out _ _ C2.out (by have h1 := NUM.out; have h2 := WD1.out.new; simp only; omega)) (fun f => f); have d1 := CP.out.kept.cell (OLDr.out _ _ FDJ.out (by have h1 := NUM.out; have h2 := HGD.out; simp only; omega)) (fun f => f); have d3 := CP.out.at_ 2 _ rfl; have d2 := CP.out.kept.cell (KKr.out.cell LD.out.cb (by have h1 := NUM.out; simp only; omega)) (fun f => f)))
          have TO := Lib.hid (own_keptS TOr.out CP.out.kept (fun _ _ f => f))
          have GRR := Lib.hid (GRRr.out.keep CP.out.kept (fun _ _ f => f.elim))
          have GRO := Lib.hid (GROr.out.keep CP.out.kept (fun _ _ f => f.elim))
          have HA := Lib.hid (show ∀ k, A k → k < W.heap.size from fun k h => by have h1 := HAr.out k h; have h2 := CP.out.kept.size; omega)
          have KK := Lib.hid (KKr.out.trans CP.out.kept (fun _ _ h => h) (fun _ _ f => f.elim) : Kept (fun k => k = tb) w2 W)
          have CB := Lib.hid (CP.out.kept.cell (KKr.out.cell LD.out.cb (by have h1 := NUM.out; simp only; omega)) (fun f => f))
          have CN := Lib.hid (CP.out.kept.cell (KKr.out.cell LD.out.cn (by have h1 := NUM.out; have h2 := LD.out.next; simp only; omega)) (fun f => f))
          have B0 := Lib.hid (show b0 ≤ W.heap.size from by have h1 := B2.out; have h2 := KK.out.size; omega)
          have WD := Lib.hid (((WD1.out.kept LD.out.kept).keptT KK.out (fun k e => by have := NUM.out; omega)))
          have hjl := HJL.out
          go_roundg (n - (j + 1))
          case measure => have := G1.out; omega
          case rel => exact ⟨j + 1, rv, ov, lr, lo, A, by omega, by go_num, TO.out, GRR.out, GRO.out, AP.out, HA.out, by have := LR.out; omega, by have := LO.out; omega, by rw [rootsL_skip (.inr (by rw [HY.out]; exact PZ.out))]; exact FRR.out, by rw [orphL_skip HH.out]; exact FRO.out, KK.out⟩
    · have j0 : ¬ (j : Int) < (n : Int) := by omega
      have E1 := Lib.hid (show j = n from by have := G1.out; omega)
      obtain ⟨ra, rn, rc, hrv⟩ : ∃ a n c, rv = .slice a n c := by
        rcases row_form GRRr.out.row with ⟨q1, q2⟩ | ⟨g', c', q1, _⟩
        · exact ⟨_, _, _, q1⟩
        · exact ⟨_, _, _, q1⟩
      obtain ⟨oa, on, oc, hov⟩ : ∃ a n c, ov = .slice a n c := by
        rcases row_form GROr.out.row with ⟨q1, q2⟩ | ⟨g', c', q1, _⟩
        · exact ⟨_, _, _, q1⟩
        · exact ⟨_, _, _, q1⟩
      subst hrv hov
      have x0 := own_cellN TOr.out (i := 0) rfl
      have x1 := own_cellN TOr.out (i := 1) rfl
      have f0 := TOr.out.frozenAt 0
      have f1 := TOr.out.frozenAt 1
      go_wp2
      obtain ⟨W2, hW2⟩ : ∃ W, (wr.setCell ⟨tb, 0, none⟩ (Value.slice ra rn rc)).setCell ⟨tb, 1, none⟩ (Value.slice oa on oc) = W := ⟨_, rfl⟩
      have TO2 := Lib.hid (show W2.ownsRow tb 28 2 (.slice (some ⟨tb, 0, none⟩) 1 1) 1 [Value.slice ra rn rc, Value.slice oa on oc] from by rw [← hW2]; exact own_putN (own_putN TOr.out 0 _) 1 _)
      have KP := Lib.hid (show Kept (fun k => k = tb) wr W2 from by rw [← hW2]; exact Kept.setCells (S := fun k => k = tb) (fun _ => rfl) [Value.slice ra rn rc, Value.slice oa on oc] 0 (Kept.refl _ wr))
      rw [hW2]
      clear hW2 x0 x1
      have r0 := own_cellN TO2.out (i := 0) rfl
      have r1 := own_cellN TO2.out (i := 1) rfl
      refine bodyPost_ret (v := .agg #[Value.slice ra rn rc, Value.slice oa on oc]) (by simp [results, Try.results10, go_sem, r0, r1]; try rfl) rfl ?_
      have KF := Lib.hid ((((K1.out.trans K2.out (fun _ _ f => f) (fun _ _ f => f) : Kept (fun _ => False) w w1).trans LD.out.kept (fun _ _ f => f) (fun _ _ f => f) : Kept (fun _ => False) w w2).trans KKr.out (fun _ _ f => f) (fun k h e => by have := NUM.out; omega) : Kept (fun _ => False) w wr).trans KP.out (fun _ _ f => f) (fun k h e => by have := NUM.out; omega) : Kept (fun _ => False) w W2)
      rw [HRR.out]
      refine ⟨_, _, rfl, ?_, ?_, KF.out⟩
      · have hf : frN lr = rootsF R := by rw [FRR.out, rootsF, HN.out, E1.out]
        rw [← hf]
        exact GRRr.out.reads.keptS KP.out (fun k _ hs e => by have := NUM.out; omega) (fun k _ hs => by have := NUM.out; omega)
      · have hf : frN lo = orphF R := by rw [FRO.out, orphF, HN.out, E1.out]
        rw [← hf]
        exact GROr.out.reads.keptS KP.out (fun k _ hs e => by have := NUM.out; omega) (fun k _ hs => by have := NUM.out; omega)
end Go.Proofs.Ytjidldbolbjdpaa
