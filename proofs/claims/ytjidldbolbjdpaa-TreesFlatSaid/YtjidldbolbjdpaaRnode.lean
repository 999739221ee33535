/- spoorref14.node. -/
import Derived.Test.YtjidldbolbjdpaaRhead
namespace Go.Proofs.Ytjidldbolbjdpaa
open Go.RowKit

theorem kidF_ne {R : List Spn} {k i : Nat} (h : pF R k ≠ some i) : kidF R (k + 1) i = kidF R k i := by
  rw [kidF_snoc, if_neg, List.append_nil]
  exact fun a => h a.1
theorem pInt_eq {q : Option Nat} {i : Nat} (h : q ≠ some i) : (pInt q == (i : Int)) = false := by
  cases q with
  | none => simp [pInt]
  | some k => simp only [pInt, beq_eq_false_iff_ne, ne_eq]; exact fun e => h (by rw [Int.ofNat_inj.1 e])

set_option maxHeartbeats 8000000 in
set_option maxRecDepth 100000 in
theorem rnode_any (R : List Spn) (hl : R.length ≤ 1000) (hr : Rise R) : ∀ (d : Nat) (w : World) (v : Value) (i : Nat), Low R d i → i < R.length → ReadsS w v R →
    Calls Try.prog 27 #[v, .int .i64 i] w fun e w' => ∃ u, e = .returned (.agg ((nth R i).cells ++ [u]).toArray) ∧ ReadsF (fun k => w.heap.size ≤ k) w' u (subF R d i) ∧ Kept (fun _ => False) w w' := by
  intro d
  induction d with
  | zero => intro w v i h; exact h.elim
  | succ d ih =>
    intro w v i hlow hi hrd
    have RD := Lib.hid hrd
    have HL := Lib.hid hl
    obtain ⟨ao, cap, rfl, rd⟩ := hrd
    obtain ⟨g, o, rfl, hc⟩ : ∃ g o, ao = some ⟨g, o, none⟩ ∧ ∀ j u, (cellsS R)[j]? = some u → w.cell? ⟨g, o + j, none⟩ = some u := by
      rcases rd with h | h
      · subst h; simp at hi
      · exact h
    obtain ⟨y, hy⟩ : ∃ y, nth R i = y := ⟨_, rfl⟩
    have gy := nth_get hi
    rw [hy] at gy
    obtain ⟨e0, e1, e2, e3, e4, e5, e6, e7⟩ := ReadsS.at hc gy
    have b4 := World.block_lt_of_cell? _ _ e0
    obtain ⟨n, hn⟩ : ∃ n, R.length = n := ⟨_, rfl⟩
    rw [hn] at hi hl RD ⊢
    have i0 : (0 : Int) ≤ (i : Int) := by omega
    have i1 : (i : Int) < (n : Int) := by omega
    have HN := Lib.hid hn; have HY := Lib.hid hy
    have LW := Lib.hid (show ∀ k ∈ kidF R R.length i, Low R d k from hlow)
    clear hn hy gy hlow hc rd
    simp only at b4
    obtain ⟨i39, hi39, z39, s39, b39⟩ := info_parts inf39
    rw [HY.out]
    go_enter Try.func27, Try.ntmps27
    go_wp2
    refine wp_gen (fun W => Begun w W w.heap.size (y.cells ++ [Value.slice none 0 0])) (begun w (y.cells ++ [Value.slice none 0 0]) rfl) ?_
    intro W bg
    obtain ⟨rb, hrb⟩ : ∃ r, w.heap.size = r := ⟨_, rfl⟩
    rw [hrb] at bg ⊢
    have BG := Lib.hid bg
    clear bg hrb e0 e1 e2 e3 e4 e5 e6 e7 b4
    go_loopg [6] n (fun ghv s wr => ∃ (k : Nat) (kv : Value) (l : List NR) (A : Nat → Prop), k + ghv = n ∧ s = .int .i64 k ∧ wr.ownsRow (rb + 1) 39 9 (.slice (some ⟨rb + 1, 0, none⟩) 1 1) 1 (y.cells ++ [kv]) ∧ Grown (rb + 2) A wr kv l ∧ (∀ k, A k → k < wr.heap.size) ∧ l.length ≤ k ∧ frN l = forF (subF R d) R (kidF R k i) ∧ Kept (fun k => k = rb + 1) W wr)
    case atStart => exact ⟨0, .slice none 0 0, [], fun _ => False, by omega, by go_num, BG.out.x, Grown.nil _ _ _, fun _ f => f.elim, Nat.le_refl _, rfl, Kept.refl _ _⟩
    case round =>
      obtain ⟨k, kv, l, A, hg1, rfl, hxo, hgr, hA, hll, hfr, hk⟩ := hrel
      have G1 := Lib.hid hg1; have XOr := Lib.hid hxo; have GRr := Lib.hid hgr; have HAr := Lib.hid hA; have LL := Lib.hid hll; have FR := Lib.hid hfr; have KKr := Lib.hid hk
      clear hg1 hxo hgr hA hll hfr hk
      by_cases hkn : k < n
      · have j0 : (k : Int) < (n : Int) := by omega
        have j1 : (0 : Int) ≤ (k : Int) := by omega
        have e1 : IntKind.i64.wrap ((k : Int) + 1) = ((k + 1 : Nat) : Int) := IntWalk.i64_in _ (by omega)
        have HKN := Lib.hid (show k < R.length from by rw [HN.out]; exact hkn)
        have KW := Lib.hid (BG.out.kept.trans KKr.out (fun _ _ h => h) (fun k h1 h2 => by have := BG.out.new; omega) : Kept (fun _ => False) w wr)
        by_cases hp : pF R k = some i
        · have HP := Lib.hid hp
          have d1 : ((i : Int) == (i : Int)) = true := by simp
          clear hp
          go_wp2_with fail
          refine (rparent_any wr _ R k (RD.out.keptF KW.out) HL.out hr HKN.out).mono ?_
          rintro e w3 ⟨rfl, k3⟩
          rw [HP.out]
          simp only [pInt]
          have K3 := Lib.hid k3
          clear k3
          go_wp2_with fail
          refine (rhead_any w3 _ R k (RD.out.keptF (keptFF KW.out K3.out)) HL.out hr HKN.out).mono ?_
          rintro e w4 ⟨rfl, k4⟩
          have K4 := Lib.hid (keptFF K3.out k4)
          have XO := Lib.hid (own_keptS XOr.out K4.out (fun _ _ f => f))
          have GR := Lib.hid (GRr.out.keep K4.out (fun _ _ f => f.elim))
          have HA := Lib.hid (show ∀ k, A k → k < w4.heap.size from fun k h => by have h1 := HAr.out k h; have h2 := K4.out.size; omega)
          have KK := Lib.hid (KKr.out.trans K4.out (fun _ _ h => h) (fun _ _ f => f.elim) : Kept (fun k => k = rb + 1) W w4)
          clear k4
          cases hh : hdF R k with
          | true =>
            have HH := Lib.hid hh
            clear hh
            go_wp2
            go_roundg (n - (k + 1))
            case measure => have := G1.out; omega
            case rel => exact ⟨k + 1, kv, l, A, by omega, by go_num, XO.out, GR.out, HA.out, by have := LL.out; omega, by rw [kidF_skip (.inr HH.out)]; exact FR.out, KK.out⟩
          | false =>
            have HH := Lib.hid hh
            clear hh
            have RDW := Lib.hid (RD.out.keptF (keptFF KW.out K4.out))
            have HKM := Lib.hid (show k ∈ kidF R R.length i from mem_kidF.2 ⟨HKN.out, HP.out, HH.out⟩)
            obtain ⟨z, hz⟩ : ∃ z, nth R k = z := ⟨_, rfl⟩
            have HZ := Lib.hid hz
            clear hz
            have SS := Lib.hid (show ∀ w', Kept (fun _ => False) w4 w' → w'.cell? ⟨rb + 1, 8, none⟩ = some kv from fun w' k => k.cell (own_cellN XO.out (i := 8) rfl) (fun f => f))
            have hkvs : ∃ a' c', kv = .slice a' l.length c' := by
              rcases row_form GR.out.row with ⟨q1, q2⟩ | ⟨g', c', q1, _⟩
              · exact ⟨none, 0, by rw [q1, q2]⟩
              · exact ⟨_, _, q1⟩
            go_wp2
            refine wp_region_last 8 (fun w' => w'.cell? ⟨rb + 1, 8, none⟩ = some kv) (by kernel_rfl) ?_
            have k0 := (Kept.refl (fun _ => False) w4).drew
            have hHeld := SS.out _ k0
            simp only [List.size_toArray, List.length_cons, List.length_nil, Nat.zero_add, Nat.reduceAdd]
            refine wpAnyF_take (i := 0) (v := ?_) opAt0 (by kernel_rfl) (by kernel_rfl) (by kernel_rfl) (by kernel_rfl) (by decide) (fun _ _ _ h => h) (Or.inl ⟨by rfl, ?_⟩) hHeld ?_
            case refine_2 => (intro w hSw; (try dsimp only at hSw); go_simp; all_goals (with_reducible rfl))
            (try simp only [Act.put]); (try simp only [List.setIfInBounds_toArray]); (try simp only [List.set_cons_succ]); (try simp only [List.set_cons_zero])
            refine wpAnyF_take (i := 1) (v := ?_) opAt1 (by kernel_rfl) (by kernel_rfl) (by kernel_rfl) (by kernel_rfl) (by decide) (fun _ _ _ h => h) (Or.inl ⟨by rfl, ?_⟩) hHeld ?_
            case refine_2 => (intro w hSw; (try dsimp only at hSw); go_simp; all_goals (with_reducible rfl))
            (try simp only [Act.put]); (try simp only [List.setIfInBounds_toArray]); (try simp only [List.set_cons_succ]); (try simp only [List.set_cons_zero])
            refine wpAnyF_take (i := 2) (v := ?_) opAt2 (by kernel_rfl) (by kernel_rfl) (by kernel_rfl) (by kernel_rfl) (by decide) (fun _ _ _ h => h) (Or.inl ⟨by rfl, ?_⟩) hHeld ?_
            case refine_2 => (intro w hSw; (try dsimp only at hSw); go_simp; all_goals (with_reducible rfl))
            (try simp only [Act.put]); (try simp only [List.setIfInBounds_toArray]); (try simp only [List.set_cons_succ]); (try simp only [List.set_cons_zero])
            refine wpAnyF_take (i := 3) (v := ?_) opAt3 (by kernel_rfl) (by kernel_rfl) (by kernel_rfl) (by kernel_rfl) (by decide) (fun _ _ _ h => h) (Or.inl ⟨by rfl, ?_⟩) hHeld ?_
            case refine_2 => (intro w hSw; (try dsimp only at hSw); go_simp; all_goals (with_reducible rfl))
            (try simp only [Act.put]); (try simp only [List.setIfInBounds_toArray]); (try simp only [List.set_cons_succ]); (try simp only [List.set_cons_zero])
            refine next1 4 (by kernel_rfl) opAt4 fun K' hK => ?_
            go_simp
            go_at_call 27
            refine (ih _ _ k (LW.out k HKM.out) HKN.out (RDW.out.keptF k0)).mono ?_
            rintro e w5 ⟨v5, rfl, rv5, k5⟩
            obtain ⟨a5, c5, ev, _⟩ := id rv5
            obtain ⟨n5, hn5⟩ : ∃ n, (subF R d k).len = n := ⟨_, rfl⟩
            rw [hn5] at ev
            subst ev
            clear hn5
            rw [HZ.out, nodeVal]
            have K5 := Lib.hid (keptFF k0 k5)
            have RV := Lib.hid rv5
            clear k5 rv5
            dsimp only
            have hHeld := SS.out _ K5.out
            refine hK _ _ ⟨fun _ => hHeld, ?_⟩
            clear hK K'
            (try simp only [Act.put]); (try simp only [List.setIfInBounds_toArray]); (try simp only [List.set_cons_succ]); (try simp only [List.set_cons_zero])
            refine next1 5 (by kernel_rfl) opAt5 fun K' hK => ?_
            go_simp
            have hHeld := SS.out (w5.alloc (.cells (z.cells ++ [Value.slice a5 n5 c5]).toArray 39)) (K5.out.alloc _)
            refine hK _ _ ⟨fun _ => hHeld, ?_⟩
            clear hK K'
            (try simp only [Act.put]); (try simp only [List.setIfInBounds_toArray]); (try simp only [List.set_cons_succ]); (try simp only [List.set_cons_zero])
            refine next1 6 (by kernel_rfl) opAt6 fun K' hK => ?_
            refine step_app (by rfl) _ _ 26 (by rfl) (rb + 2) 39 i39 _ 9 112 Try.underlying26 hi39 z39 s39 b39 (by rfl) (by decide) kv l.length _ (by rfl) ((own_keptS GR.out.row K5.out (fun _ _ f => f)).alloc _) ⟨_, 0, none⟩ 1 1 (z.cells ++ [Value.slice a5 n5 c5]) (by rfl) (by rfl) ?_ ?_ ?_ ?_ ?_ ?_
            · exact World.news_of_block (heap_alloc_new _ _)
            · intro u hu; simp [Spn.cells] at hu; rcases hu with rfl | rfl | rfl | rfl | rfl | rfl | rfl | rfl | rfl <;> rfl
            · have := LL.out; unfold maxLen; omega
            · have := LL.out; omega
            · have h1 := BG.out.size; have h2 := KK.out.size; have h3 := K5.out.size; simp; omega
            intro ao' cap' w6 hown hgr hat
            have KV := Lib.hid (((Kept.refl (fun _ => False) w5).alloc _).trans (grown_kept hgr) (fun _ _ f => f.elim) (fun _ _ h => h) : Kept (fun k => kv.ownBlock = some k) w5 w6)
            have HAT := Lib.hid (show (Value.slice ao' (l.length + 1) cap').ownBlock = kv.ownBlock ∨ ∃ b, (Value.slice ao' (l.length + 1) cap').ownBlock = some b ∧ w5.heap.size ≤ b from hat.imp id (fun e => ⟨_, e, by simp⟩))
            have GR2 := Lib.hid (GR.out.push HA.out (by have h1 := BG.out.size; have h2 := KK.out.size; omega) K5.out RV.out KV.out hown HAT.out)
            have SZ := Lib.hid (show ∀ k, (A k ∨ (Value.slice ao' (l.length + 1) cap').ownBlock = some k) → k < w6.heap.size from fun k hk => hk.elim (fun h => by have h1 := HA.out k h; have h2 := K5.out.size; have h3 := KV.out.size; omega) (fun h => (own_lt hown h).2))
            clear hown hgr hat
            have hHeld := (KV.out.cell (SS.out _ K5.out) (fun e => by have h1 := own_lt GR.out.row e; simp only at h1; omega) : w6.cell? ⟨rb + 1, 8, none⟩ = some kv)
            refine hK _ _ ⟨fun _ => hHeld, ?_⟩
            clear hK K'
            (try simp only [Act.put]); (try simp only [List.setIfInBounds_toArray]); (try simp only [List.set_cons_succ]); (try simp only [List.set_cons_zero])
            refine wpAnyF_take (i := 7) (v := ?_) opAt7 (by kernel_rfl) (by kernel_rfl) (by kernel_rfl) (by kernel_rfl) (by decide) (fun _ _ _ h => h) (Or.inl ⟨by rfl, ?_⟩) hHeld ?_
            case refine_2 => (intro w hSw; (try dsimp only at hSw); go_simp; all_goals (with_reducible rfl))
            (try simp only [Act.put]); (try simp only [List.setIfInBounds_toArray]); (try simp only [List.set_cons_succ]); (try simp only [List.set_cons_zero])
            refine next1 8 (by kernel_rfl) opAt8 fun K' hK => ?_
            have XO6 := Lib.hid (own_keptS (own_keptS XO.out K5.out (fun _ _ f => f)) KV.out (fun b hb e => by have h1 := own_lt GR.out.row e; cases hb; simp only at h1; omega))
            refine step_store1 (by rfl) 26 _ _ (by rfl) (rb + 1) 8 (.slice ao' (l.length + 1) cap') (by rfl) (by rfl) (by rw [hHeld]; rfl) (XO6.out.frozenAt _) sz26 rfl rfl ?_
            intro W2 hW2
            have XO2 := Lib.hid (show W2.ownsRow (rb + 1) 39 9 (.slice (some ⟨rb + 1, 0, none⟩) 1 1) 1 (y.cells ++ [.slice ao' (l.length + 1) cap']) from by rw [hW2]; exact own_putN XO6.out 8 _)
            have KP := Lib.hid (show Kept (fun k => k = rb + 1) w6 W2 from by rw [hW2]; exact kept_put w6 (rb + 1) 8 _)
            have GR3 := Lib.hid (GR2.out.keep KP.out (fun k _ e => by omega))
            have KK2 := Lib.hid (((KK.out.trans K5.out (fun _ _ h => h) (fun _ _ f => f.elim) : Kept (fun k => k = rb + 1) W w5).trans KV.out (fun _ _ h => h) (fun k h1 h2 => by have h3 := own_lt GR.out.row h2; have h4 := BG.out.size; omega) : Kept (fun k => k = rb + 1) W w6).trans KP.out (fun _ _ h => h) (fun _ _ h => h) : Kept (fun k => k = rb + 1) W W2)
            clear hW2
            refine hK _ _ ⟨fun h => absurd rfl h, ?_⟩
            clear hK K'
            (try simp only [Act.put]); (try simp only [List.setIfInBounds_toArray]); (try simp only [List.set_cons_succ]); (try simp only [List.set_cons_zero])
            refine wpAnyF_done (by kernel_rfl) ?_ _
            go_wp2
            go_roundg (n - (k + 1))
            case measure => have := G1.out; omega
            case rel => exact ⟨k + 1, _, _, _, by omega, by go_num, XO2.out, GR3.out, fun k hk => by have h1 := SZ.out k hk; have h2 := KP.out.size; omega, by have := LL.out; simp; omega, by
              rw [frN_app, FR.out, kidF_here HP.out HH.out, forF_app]; simp only [frN, forF, HZ.out], KK2.out⟩
        · have HP := Lib.hid hp
          obtain ⟨z, hz⟩ : ∃ z, pInt (pF R k) = z := ⟨_, rfl⟩
          have d1 : (z == (i : Int)) = false := by rw [← hz]; exact pInt_eq hp
          have HZ := Lib.hid hz
          clear hp hz
          go_wp2_with fail
          refine (rparent_any wr _ R k (RD.out.keptF KW.out) HL.out hr HKN.out).mono ?_
          rintro e w3 ⟨rfl, k3⟩
          rw [HZ.out]
          have K3 := Lib.hid k3
          clear k3
          go_wp2
          go_roundg (n - (k + 1))
          case measure => have := G1.out; omega
          case rel => exact ⟨k + 1, kv, l, A, by omega, by go_num, own_keptS XOr.out K3.out (fun _ _ f => f), GRr.out.keep K3.out (fun _ _ f => f.elim), fun k h => (by have h1 := HAr.out k h; have h2 := K3.out.size; omega), by have := LL.out; omega, by rw [kidF_ne HP.out]; exact FR.out, KKr.out.trans K3.out (fun _ _ h => h) (fun _ _ f => f.elim)⟩
      · have j0 : ¬ (k : Int) < (n : Int) := by omega
        have E1 := Lib.hid (show k = n from by have := G1.out; omega)
        have KW := Lib.hid (BG.out.kept.trans KKr.out (fun _ _ h => h) (fun k h1 h2 => by have := BG.out.new; omega) : Kept (fun _ => False) w wr)
        have RO := Lib.hid (own_keptS BG.out.res KKr.out (fun b hb e => by cases hb; simp only at e; omega))
        obtain ⟨a1, c1, hkv⟩ : ∃ a' c', kv = .slice a' l.length c' := by
          rcases row_form GRr.out.row with ⟨q1, q2⟩ | ⟨g', c', q1, _⟩
          · exact ⟨none, 0, by rw [q1, q2]⟩
          · exact ⟨_, _, q1⟩
        obtain ⟨nl, hnl⟩ : ∃ n, l.length = n := ⟨_, rfl⟩
        rw [hnl] at hkv
        subst hkv
        clear hnl
        have x0 := own_cellN XOr.out (i := 0) rfl; have x1 := own_cellN XOr.out (i := 1) rfl; have x2 := own_cellN XOr.out (i := 2) rfl; have x3 := own_cellN XOr.out (i := 3) rfl
        have x4 := own_cellN XOr.out (i := 4) rfl; have x5 := own_cellN XOr.out (i := 5) rfl; have x6 := own_cellN XOr.out (i := 6) rfl; have x7 := own_cellN XOr.out (i := 7) rfl; have x8 := own_cellN XOr.out (i := 8) rfl
        go_wp2_with (refine wpList_store_letter (by rfl) 39 _ _ (by rfl) rb 0 (y.cells ++ [Value.slice a1 nl c1]).toArray (by rfl) (by rfl) (there9 RO.out) info39 (node_all y _ rfl) ?_; intro W2 hW2; have RO2 := Lib.hid (show W2.ownsRow rb 39 9 (.slice (some ⟨rb, 0, none⟩) 1 1) 1 (y.cells ++ [Value.slice a1 nl c1]) from by rw [hW2]; exact own_all9 RO.out _ rfl); have KP := Lib.hid (show Kept (fun k => k = rb) wr W2 from by rw [hW2]; exact Kept.setCells (S := fun k => k = rb) (fun _ => rfl) _ 0 (Kept.refl _ wr)); clear hW2 x0 x1 x2 x3 x4 x5 x6 x7 x8; have r0 := own_cellN RO2.out (i := 0) rfl; have r1 := own_cellN RO2.out (i := 1) rfl; have r2 := own_cellN RO2.out (i := 2) rfl; have r3 := own_cellN RO2.out (i := 3) rfl; have r4 := own_cellN RO2.out (i := 4) rfl; have r5 := own_cellN RO2.out (i := 5) rfl; have r6 := own_cellN RO2.out (i := 6) rfl; have r7 := own_cellN RO2.out (i := 7) rfl; have r8 := own_cellN RO2.out (i := 8) rfl)
        refine bodyPost_ret (v := .agg (y.cells ++ [Value.slice a1 nl c1]).toArray) (by simp [results, Try.results27, go_sem, r0, r1, r2, r3, r4, r5, r6, r7, r8]; try rfl) rfl ?_
        refine ⟨.slice a1 nl c1, rfl, ?_, KW.out.trans KP.out (fun _ _ h => h) (fun k h1 h2 => by have := BG.out.new; omega)⟩
        have hf : frN l = subF R (d + 1) i := by rw [FR.out, subF, HN.out, E1.out]
        rw [← hf]
        exact GRr.out.reads.keptS KP.out (fun k _ hs e => by omega) (fun k _ hs => by have := BG.out.new; omega)
end Go.Proofs.Ytjidldbolbjdpaa
