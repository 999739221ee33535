/- trees.of. -/
import Derived.Test.YtjidldbolbjdpaaWood
namespace Go.Proofs.Ytjidldbolbjdpaa
open Go.RowKit

/-- The parents of the first m. -/
def parL (R : List Spn) (m : Nat) : List Int := (List.range m).map (fun x => pInt (pF R x))
theorem parL_snoc (R : List Spn) (m : Nat) : parL R (m + 1) = parL R m ++ [pInt (pF R m)] := by simp [parL, List.range_succ]
theorem parL_at {R : List Spn} {m x : Nat} (h : x < m) : (ints (parL R m))[x]? = some (.int .i64 (pInt (pF R x))) := by simp [parL, ints, h]
theorem own_nil (w : World) (base : Nat) (e : TypeId) (size : Nat) : w.ownsRow base e size (.slice none 0 0) 0 [] := ⟨by simp, .inl ⟨rfl, rfl⟩⟩
theorem own_cellN {w : World} {base e size g n cap : Nat} {xs : List Value} (h : w.ownsRow base e size (.slice (some ⟨g, 0, none⟩) n cap) n xs) {i : Nat} {u : Value} (hu : xs[i]? = some u) : w.cell? ⟨g, i, none⟩ = some u := by
  have := h.cells (g := g) rfl i u hu
  rwa [add_mid, Nat.zero_add] at this
theorem own_putN {w : World} {base e size g n cap : Nat} {xs : List Value} (h : w.ownsRow base e size (.slice (some ⟨g, 0, none⟩) n cap) n xs) (i : Nat) (u : Value) : (w.setCell ⟨g, i, none⟩ u).ownsRow base e size (.slice (some ⟨g, 0, none⟩) n cap) n (xs.set i u) := (h.stored i u).1
theorem copy_own (w : World) : (w.alloc (.cells zeroS.cells.toArray 24)).ownsRow w.heap.size 24 8 (.slice (some ⟨w.heap.size, 0, none⟩) 1 1) 1 (cellsS [zeroS]) := by
  have h := World.ownsRow_lit (e := 24) (size := 8) w zeroS.cells.toArray 1 (Nat.le_refl w.heap.size) (by unfold maxLen; omega) rfl
  simpa [cellsS] using h
/-- A span copied into a block of its own. -/
structure Copied (w W : World) (sb : Nat) (y : Spn) : Prop where
  kept : Kept (fun _ => False) w W
  new : w.heap.size = sb
  size : sb < W.heap.size
  at_ : ∀ j u, y.cells[j]? = some u → W.cell? ⟨sb, j, none⟩ = some u
theorem copied (w W : World) (y : Spn) (h : W = (w.alloc (.cells zeroS.cells.toArray 24)).setCells w.heap.size 0 y.cells) : ∃ sb, Copied w W sb y := by
  refine ⟨w.heap.size, ?_⟩
  subst h
  have h := own_set (copy_own w) y (i := 0) (by simp)
  rw [Nat.zero_mul] at h
  have hk : Kept (fun _ => False) w ((w.alloc (.cells zeroS.cells.toArray 24)).setCells w.heap.size 0 y.cells) :=
    Kept.setCells (S := fun _ => False) (g := w.heap.size) (fun h => by omega) y.cells 0 ((Kept.refl (fun _ => False) w).alloc _)
  refine ⟨hk, rfl, ?_, fun j u hu => ?_⟩
  · rcases row_form h with ⟨e, _⟩ | ⟨g, c, e, _, _, hlt, _⟩
    · cases e
    · cases e; exact hlt
  · exact own_cellN h (by simpa [cellsS] using hu)
theorem cut2 {P : Program} {id : Nat} {ops : Array Oper} {d : Bool} {Q : Exit → Act → World → Prop} {a : Act} {w : World} {A : Nat → Nat → Act} (POST : Nat → Nat → World → Prop)
    (h1 : (∀ x y w', POST x y w' → Q .normal (A x y) w') → (Code.region id ops d).wp P Q a w) (h2 : ∀ x y w', POST x y w' → Q .normal (A x y) w') : (Code.region id ops d).wp P Q a w := h1 h2
/-- The wood's two rows are made. -/
structure Laid (wr w : World) (wb hd kd n : Nat) (v vp : Value) : Prop where
  kept : Kept (fun k => k = wb) wr w
  gh_new : wr.heap.size ≤ hd
  gk_new : wr.heap.size ≤ kd
  ne : hd ≠ kd
  wood : w.ownsRow wb 53 4 (.slice (some ⟨wb, 0, none⟩) 1 1) 1 [v, vp, .slice (some ⟨hd, 0, none⟩) n n, .slice (some ⟨kd, 0, none⟩) n n]
  head : w.ownsRow (wb + 1) 4 1 (.slice (some ⟨hd, 0, none⟩) n n) n (List.replicate n (.bool false))
  kids : w.ownsRow (wb + 1) 49 1 (.slice (some ⟨kd, 0, none⟩) n n) n (List.replicate n (.slice none 0 0))
theorem wp_region_letter {P : Program} {id : Nat} {ops : Array Oper} {Q : Exit → Act → World → Prop} {a : Act} {w : World} (hm : P.follows .mixedOrders = true) (R : World → Prop) (h0 : R w.drew)
    (h : ∀ V, R V → wpAny P .any ops Q ops.size (Array.replicate ops.size false) a V) : (Code.region id ops true).wp P Q a w := wp_region_any hm (h _ h0)

set_option maxHeartbeats 8000000 in
set_option maxRecDepth 100000 in
theorem of_any (w : World) (v : Value) (L : List Spn) (h : ReadsS w v L) (hl : L.length ≤ 1000) :
    Calls Try.prog 23 #[v] w fun e w' => ∃ wb, e = .returned (.pointer (some ⟨wb, 0, none⟩)) ∧ Wood w.heap.size w' wb (cntF L) ∧ Kept (fun _ => False) w w' := by
  go_enter Try.func23, Try.ntmps23
  go_wp2_with fail
  refine (kept_any _ v L h hl).mono ?_
  rintro e w1 ⟨v', rfl, rv, k1⟩
  obtain ⟨ao, cap, rfl, rdb⟩ := rv
  have rd : cntF L = [] ∨ ∃ g o, ao = some ⟨g, o, none⟩ ∧ ∀ j u, (cellsS (cntF L))[j]? = some u → w1.cell? ⟨g, o + j, none⟩ = some u := rdb.imp id (fun ⟨g, o, e, _, c⟩ => ⟨g, o, e, c⟩)
  obtain ⟨R, hR⟩ : ∃ R, cntF L = R := ⟨_, rfl⟩
  rw [hR] at rd rdb ⊢
  have hrl : R.length ≤ 1000 := by rw [← hR]; have := cntF_len L; omega
  have hri : Rise R := by rw [← hR]; exact (cntF_cnt L).rise
  obtain ⟨n, hn⟩ : ∃ n, R.length = n := ⟨_, rfl⟩
  have hnl : n ≤ 1000 := by omega
  have HRR := Lib.hid hR; have HN := Lib.hid hn; have RD := Lib.hid rd; have RDB := Lib.hid rdb; have RI := Lib.hid hri; have K1 := Lib.hid k1
  rw [hn]
  clear h hl hR hrl hri hn rd rdb k1
  go_wp2
  have hsz : w1.heap.size < w1.heap.size + 1 := by omega
  obtain ⟨wb, hwb⟩ : ∃ g, w1.heap.size = g := ⟨_, rfl⟩
  have HO0 := World.ownsRow_lit (e := 53) (size := 4) w1 #[.slice ao n cap, .slice none 0 0, .slice none 0 0, .slice none 0 0] 1 (Nat.le_refl w1.heap.size) (by unfold maxLen; omega) (by rfl)
  rw [hwb] at HO0 ⊢
  obtain ⟨i3, hi3, z3, s3, b3⟩ := info_parts inf3
  obtain ⟨i4, hi4, z4, s4, b4⟩ := info_parts inf4
  obtain ⟨i49, hi49, z49, s49, b49⟩ := info_parts inf49
  have HWB := Lib.hid hwb; have H0 := Lib.hid HO0
  clear hwb HO0
  go_loopg [20] n (fun ghv s wr => ∃ (i : Nat) (vp : Value), i + ghv = n ∧ s = .int .i64 i ∧ wr.ownsRow wb 53 4 (.slice (some ⟨wb, 0, none⟩) 1 1) 1 [.slice ao n cap, vp, .slice none 0 0, .slice none 0 0] ∧ wr.ownsRow (wb + 1) 3 1 vp i (ints (parL R i)) ∧ Kept (fun _ => False) w1 wr)
  case atStart => exact ⟨0, .slice none 0 0, by omega, by go_num, H0.out, own_nil _ _ _ _, (Kept.refl _ _).alloc _⟩
  case round =>
    obtain ⟨i, vp, hg1, rfl, hwo, hpo, hk⟩ := hrel
    have G1 := Lib.hid hg1; have WO := Lib.hid hwo; have PO := Lib.hid hpo; have KK := Lib.hid hk
    clear hg1 hwo hpo hk
    by_cases hin : i < n
    · have i0 : (i : Int) < (n : Int) := by omega
      have i1 : (0 : Int) ≤ (i : Int) := by omega
      have e1 : IntKind.i64.wrap ((i : Int) + 1) = ((i + 1 : Nat) : Int) := IntWalk.i64_in _ (by omega)
      obtain ⟨g, o, rfl, hc⟩ : ∃ g o, ao = some ⟨g, o, none⟩ ∧ ∀ j u, (cellsS R)[j]? = some u → w1.cell? ⟨g, o + j, none⟩ = some u := by
        rcases RD.out with h | h
        · have := HN.out; subst h; simp at this; omega
        · exact h
      obtain ⟨y, hy⟩ : ∃ y, nth R i = y := ⟨_, rfl⟩
      have gy := nth_get (l := R) (k := i) (by have := HN.out; omega)
      rw [hy] at gy
      have ry := ReadsS.range (fun j u hu => KK.out.cell (hc j u hu) (fun f => f)) gy
      have HY := Lib.hid hy; have HC := Lib.hid hc
      clear hy gy hc
      go_wp2_with (first | (refine wpList_load_mid (by rfl) 24 _ (by rfl) g (o + i * 8) (by rfl) y.cells _ ry Try.underlying24 rfl info24 ?_) | (refine wpList_store_letter (by rfl) 24 _ _ (by rfl) wr.heap.size 0 y.cells.toArray (by rfl) (by rfl) (own_there (copy_own wr) (i := 0) (by simp)) info24 (cells_all y) ?_; intro W hW; obtain ⟨sb, cpd⟩ := copied wr W y hW; have CP := Lib.hid cpd; have hnew := cpd.new; rw [hnew] at *; clear cpd hW))
      have SS := Lib.hid (show ∀ w', Kept (fun _ => False) W w' → w'.cell? ⟨wb, 1, none⟩ = some vp ∧ w'.cell? ⟨sb, 2, none⟩ = some (.int .i64 y.pa) from fun w' k => ⟨k.cell (CP.out.kept.cell (own_cellN WO.out (i := 1) rfl) (fun f => f)) (fun f => f), k.cell (CP.out.at_ 2 _ rfl) (fun f => f)⟩)
      have W0 := Lib.hid (CP.out.kept.cell (own_cellN WO.out (i := 0) rfl) (fun f => f))
      have RS := Lib.hid (show ReadsS W (.slice (some ⟨g, o, none⟩) n cap) R from ⟨some ⟨g, o, none⟩, cap, by rw [HN.out], .inr ⟨g, o, rfl, fun j u hu => CP.out.kept.cell (KK.out.cell (HC.out j u hu) (fun f => f)) (fun f => f)⟩⟩)
      refine wp_region_last 13 (fun w' => w'.cell? ⟨wb, 1, none⟩ = some vp ∧ w'.cell? ⟨sb, 2, none⟩ = some (.int .i64 y.pa)) (by kernel_rfl) ?_
      have k0 := (Kept.refl (fun _ => False) W).drew
      have hHeld := SS.out _ k0
      simp only [List.size_toArray, List.length_cons, List.length_nil, Nat.zero_add, Nat.reduceAdd]
      refine wpAnyF_take (i := 0) (v := ?_) opAt0 (by kernel_rfl) (by kernel_rfl) (by kernel_rfl) (by kernel_rfl) (by decide) (fun _ _ _ h => h) (Or.inl ⟨by rfl, ?_⟩) hHeld ?_
      case refine_2 => (intro w hSw; (try dsimp only at hSw); go_simp; all_goals (with_reducible rfl))
      (try simp only [Act.put]); (try simp only [List.setIfInBounds_toArray]); (try simp only [List.set_cons_succ]); (try simp only [List.set_cons_zero])
      refine wpAnyF_take (i := 1) (v := ?_) opAt1 (by kernel_rfl) (by kernel_rfl) (by kernel_rfl) (by kernel_rfl) (by decide) (fun _ _ _ h => h) (Or.inl ⟨by rfl, ?_⟩) hHeld ?_
      case refine_2 => (intro w hSw; (try dsimp only at hSw); go_simp; all_goals (with_reducible rfl))
      (try simp only [Act.put]); (try simp only [List.setIfInBounds_toArray]); (try simp only [List.set_cons_succ]); (try simp only [List.set_cons_zero])
      refine wpAnyF_take (i := 2) (v := ?_) opAt2 (by kernel_rfl) (by kernel_rfl) (by kernel_rfl) (by kernel_rfl) (by decide) (fun _ _ _ h => h) (Or.inl ⟨by rfl, ?_⟩) hHeld ?_
      case refine_2 => (intro w hSw; (try dsimp only at hSw); go_simp; all_goals (with_reducible rfl))
      (try simp only [Act.put]); (try simp only [List.setIfInBounds_toArray]); (try simp only [List.set_cons_succ]); (try simp only [List.set_cons_zero])
      refine wpAnyF_take (i := 3) (v := ?_) opAt3 (by kernel_rfl) (by kernel_rfl) (by kernel_rfl) (by kernel_rfl) (by decide) (fun _ _ _ h => h) (Or.inl ⟨by rfl, ?_⟩) hHeld ?_
      case refine_2 => (intro w hSw; (try dsimp only at hSw); go_simp; all_goals (with_reducible rfl))
      (try simp only [Act.put]); (try simp only [List.setIfInBounds_toArray]); (try simp only [List.set_cons_succ]); (try simp only [List.set_cons_zero])
      refine wpAnyF_take (i := 4) (v := ?_) opAt4 (by kernel_rfl) (by kernel_rfl) (by kernel_rfl) (by kernel_rfl) (by decide) (fun _ _ _ h => h) (Or.inl ⟨by rfl, ?_⟩) hHeld ?_
      case refine_2 => (intro w hSw; (try dsimp only at hSw); go_simp; all_goals (with_reducible rfl))
      (try simp only [Act.put]); (try simp only [List.setIfInBounds_toArray]); (try simp only [List.set_cons_succ]); (try simp only [List.set_cons_zero])
      refine wpAnyF_take (i := 5) (v := ?_) opAt5 (by kernel_rfl) (by kernel_rfl) (by kernel_rfl) (by kernel_rfl) (by decide) (fun _ _ _ h => h) (Or.inl ⟨by rfl, ?_⟩) hHeld ?_
      case refine_2 => (intro w hSw; (try dsimp only at hSw); go_simp; all_goals (with_reducible rfl))
      (try simp only [Act.put]); (try simp only [List.setIfInBounds_toArray]); (try simp only [List.set_cons_succ]); (try simp only [List.set_cons_zero])
      refine wpAnyF_take (i := 6) (v := ?_) opAt6 (by kernel_rfl) (by kernel_rfl) (by kernel_rfl) (by kernel_rfl) (by decide) (fun _ _ _ h => h) (Or.inl ⟨by rfl, ?_⟩) hHeld ?_
      case refine_2 => (intro w hSw; (try dsimp only at hSw); go_simp; all_goals (with_reducible rfl))
      (try simp only [Act.put]); (try simp only [List.setIfInBounds_toArray]); (try simp only [List.set_cons_succ]); (try simp only [List.set_cons_zero])
      refine wpAnyF_take (i := 7) (v := ?_) opAt7 (by kernel_rfl) (by kernel_rfl) (by kernel_rfl) (by kernel_rfl) (by decide) (fun _ _ _ h => h) (Or.inl ⟨by rfl, ?_⟩) hHeld ?_
      case refine_2 => (intro w hSw; (try dsimp only at hSw); go_simp; all_goals (with_reducible rfl))
      (try simp only [Act.put]); (try simp only [List.setIfInBounds_toArray]); (try simp only [List.set_cons_succ]); (try simp only [List.set_cons_zero])
      refine next1 8 (by kernel_rfl) opAt8 fun K' hK => ?_
      go_simp
      go_at_call 34
      refine (place_any _ wb _ R y.pa (k0.cell W0.out (fun f => f)) (ReadsS.keptF RS.out k0) (by rw [HN.out]; exact hnl) RI.out).mono ?_
      rintro e w5 ⟨rfl, k5⟩
      have K5 := Lib.hid (keptFF k0 k5)
      clear k5
      dsimp only
      have hHeld := SS.out _ K5.out
      refine hK _ _ ⟨fun _ => hHeld, ?_⟩
      clear hK K'
      (try simp only [Act.put]); (try simp only [List.setIfInBounds_toArray]); (try simp only [List.set_cons_succ]); (try simp only [List.set_cons_zero])
      refine next1 9 (by kernel_rfl) opAt9 fun K' hK => ?_
      go_simp
      have hHeld := SS.out _ (K5.out.alloc (.cells #[.int .i64 (pInt (plF R y.pa))] 3))
      refine hK _ _ ⟨fun _ => hHeld, ?_⟩
      clear hK K'
      (try simp only [Act.put]); (try simp only [List.setIfInBounds_toArray]); (try simp only [List.set_cons_succ]); (try simp only [List.set_cons_zero])
      refine next1 10 (by kernel_rfl) opAt10 fun K' hK => ?_
      refine step_app (by rfl) _ _ 49 (by rfl) (wb + 1) 3 i3 _ 1 8 Try.underlying49 hi3 z3 s3 b3 (by rfl) (by decide) vp i _ (by rfl) ((own_keptS PO.out (CP.out.kept.trans K5.out (fun _ _ h => h) (fun _ _ h => h) : Kept (fun _ => False) wr w5) (fun _ _ f => f)).alloc _) ⟨_, 0, none⟩ 1 1 [.int .i64 (pInt (plF R y.pa))] (by rfl) (by rfl) ?_ ?_ ?_ ?_ ?_ ?_
      · exact World.news_of_block (heap_alloc_new _ _)
      · intro u hu; simp at hu; subst hu; rfl
      · unfold maxLen; omega
      · omega
      · have := own_lt WO.out rfl; have := CP.out.kept.size; have := K5.out.size; simp; omega
      intro ao' cap' w6 hown hgr hat
      have KV := Lib.hid (grown_kept hgr)
      have KW6 := Lib.hid ((((CP.out.kept.trans K5.out (fun _ _ h => h) (fun _ _ h => h) : Kept (fun _ => False) wr w5).alloc _).mono (fun _ _ f => f.elim) : Kept (fun k => vp.ownBlock = some k) wr _).trans KV.out (fun _ _ h => h) (fun _ _ h => h) : Kept (fun k => vp.ownBlock = some k) wr w6)
      have OWN := Lib.hid hown
      clear hown hgr hat
      have hHeld := (⟨KW6.out.cell (own_cellN WO.out (i := 1) rfl) (fun e => by have h1 := own_lt PO.out e; simp only at h1; omega), KV.out.cell (((K5.out.alloc _).cell (CP.out.at_ 2 _ rfl) (fun f => f))) (fun e => by have h1 := own_lt PO.out e; have h2 := CP.out.new; simp only at h1; omega)⟩ : w6.cell? ⟨wb, 1, none⟩ = some vp ∧ w6.cell? ⟨sb, 2, none⟩ = some (.int .i64 y.pa))
      refine hK _ _ ⟨fun _ => hHeld, ?_⟩
      clear hK K'
      (try simp only [Act.put]); (try simp only [List.setIfInBounds_toArray]); (try simp only [List.set_cons_succ]); (try simp only [List.set_cons_zero])
      refine next1 11 (by kernel_rfl) opAt11 fun K' hK => ?_
      go_simp
      have hHeld := hHeld
      refine hK _ _ ⟨fun _ => hHeld, ?_⟩
      clear hK K'
      (try simp only [Act.put]); (try simp only [List.setIfInBounds_toArray]); (try simp only [List.set_cons_succ]); (try simp only [List.set_cons_zero])
      refine wpAnyF_take (i := 12) (v := ?_) opAt12 (by kernel_rfl) (by kernel_rfl) (by kernel_rfl) (by kernel_rfl) (by decide) (fun _ _ _ h => h) (Or.inl ⟨by rfl, ?_⟩) hHeld ?_
      case refine_2 => (intro w hSw; (try dsimp only at hSw); go_simp; all_goals (with_reducible rfl))
      (try simp only [Act.put]); (try simp only [List.setIfInBounds_toArray]); (try simp only [List.set_cons_succ]); (try simp only [List.set_cons_zero])
      refine next1 13 (by kernel_rfl) opAt13 fun K' hK => ?_
      have WO6 := Lib.hid (own_keptS WO.out KW6.out (fun b hb e => by have h1 := own_lt PO.out e; cases hb; simp only at h1; omega))
      refine step_store1 (by rfl) 49 _ _ (by rfl) wb 1 (.slice ao' (i + 1) cap') (by rfl) (by rfl) (by rw [hHeld.1]; rfl) (WO6.out.frozenAt _) sz49 rfl rfl ?_
      intro W2 hW2
      have WO2 := Lib.hid (show W2.ownsRow wb 53 4 (.slice (some ⟨wb, 0, none⟩) 1 1) 1 [.slice (some ⟨g, o, none⟩) n cap, .slice ao' (i + 1) cap', .slice none 0 0, .slice none 0 0] from by rw [hW2]; exact own_putN WO6.out 1 _)
      have KP := Lib.hid (show Kept (fun k => k = wb) w6 W2 from by rw [hW2]; exact kept_put w6 wb 1 _)
      have PO2 := Lib.hid (own_keptS OWN.out KP.out (fun b hb e => by have h1 := own_lt OWN.out hb; omega))
      have KK2 := Lib.hid ((KK.out.trans KW6.out (fun _ _ h => h) (fun k h1 h2 => by have h3 := own_lt PO.out h2; have := HWB.out; omega) : Kept (fun _ => False) w1 w6).trans KP.out (fun _ _ h => h) (fun k h1 h2 => by have := HWB.out; omega) : Kept (fun _ => False) w1 W2)
      clear hW2
      refine hK _ _ ⟨fun h => absurd rfl h, ?_⟩
      clear hK K'
      (try simp only [Act.put]); (try simp only [List.setIfInBounds_toArray]); (try simp only [List.set_cons_succ]); (try simp only [List.set_cons_zero])
      refine wpAnyF_done (by kernel_rfl) ?_ _
      go_wp2
      go_roundg (n - (i + 1))
      case measure => have := G1.out; omega
      case rel => exact ⟨i + 1, _, by omega, by go_num, WO2.out, by rw [parL_snoc, ints, List.map_append]; simp only [List.map_cons, List.map_nil, pF, HY.out]; exact PO2.out, KK2.out⟩
    · have i0 : ¬ (i : Int) < (n : Int) := by omega
      obtain rfl : i = n := by have := G1.out; omega
      obtain ⟨ap, cp, gp, rfl, hap, hgpl⟩ : ∃ ap cp gp, vp = .slice ap i cp ∧ (0 < i → ap = some ⟨gp, 0, none⟩ ∧ gp ≠ wb ∧ ∀ x, x < i → wr.cell? ⟨gp, x, none⟩ = some (.int .i64 (pInt (pF R x)))) ∧ gp < wr.heap.size := by
        rcases row_form PO.out with ⟨e1, e2⟩ | ⟨gp, cp, e1, _, h3, h4, h5⟩
        · exact ⟨none, 0, 0, by rw [e1, e2], fun h => by omega, by have h1 := own_lt WO.out rfl; omega⟩
        · exact ⟨_, cp, gp, e1, fun _ => ⟨rfl, by omega, fun x hx => h5 x _ (parL_at hx)⟩, h4⟩
      have c0 := own_cellN WO.out (i := 0) rfl
      have HAP := Lib.hid (fun h => (hap h).1)
      have HPC := Lib.hid (fun h => (hap h).2)
      have GPL := Lib.hid hgpl
      clear hap hgpl
      go_wp2
      refine cut2 (A := ?A) (fun hd kd w2 => Laid wr w2 wb hd kd i (.slice ao i cap) (.slice ap i cp)) ?h1 ?h2
      case h1 =>
        intro HC
        refine wp_region_letter (by kernel_rfl) (fun V => Kept (fun k => k = wb) wr V ∧ V.ownsRow wb 53 4 (.slice (some ⟨wb, 0, none⟩) 1 1) 1 [.slice ao i cap, .slice ap i cp, .slice none 0 0, .slice none 0 0]) ⟨(Kept.refl (fun k => k = wb) wr).drew, World.ownsRow.drew WO.out⟩ ?_
        rintro V0 ⟨k0, wo0⟩
        simp only [List.size_toArray, List.length_cons, List.length_nil, Nat.zero_add, Nat.reduceAdd]
        have K0 := Lib.hid k0
        have WO0 := Lib.hid wo0
        clear k0 wo0
        refine wpAny_take (i := 0) (v := ?_) opAt0 (by kernel_rfl) (by kernel_rfl) (by kernel_rfl) (fun _ _ _ h => h) (Or.inl ⟨by rfl, ?_⟩) ?_
        case refine_2 => (intro w; go_simp; all_goals (with_reducible rfl))
        (try simp only [Act.put]); (try simp only [List.setIfInBounds_toArray]); (try simp only [List.set_cons_succ]); (try simp only [List.set_cons_zero])
        refine wpAny_take (i := 1) (v := ?_) opAt1 (by kernel_rfl) (by kernel_rfl) (by kernel_rfl) (fun _ _ _ h => h) (Or.inl ⟨by rfl, ?_⟩) ?_
        case refine_2 => (intro w; go_simp; all_goals (with_reducible rfl))
        (try simp only [Act.put]); (try simp only [List.setIfInBounds_toArray]); (try simp only [List.set_cons_succ]); (try simp only [List.set_cons_zero])
        refine wpAny_take (i := 2) (v := ?_) opAt2 (by kernel_rfl) (by kernel_rfl) (by kernel_rfl) (fun _ _ _ h => h) (Or.inl ⟨by rfl, ?_⟩) ?_
        case refine_2 => (intro w; go_simp; all_goals (with_reducible rfl))
        (try simp only [Act.put]); (try simp only [List.setIfInBounds_toArray]); (try simp only [List.set_cons_succ]); (try simp only [List.set_cons_zero])
        refine wpAny_take (i := 4) (v := ?_) opAt4 (by kernel_rfl) (by kernel_rfl) (by kernel_rfl) (fun _ _ _ h => h) (Or.inl ⟨by rfl, ?_⟩) ?_
        case refine_2 => (intro w; go_simp; all_goals (with_reducible rfl))
        (try simp only [Act.put]); (try simp only [List.setIfInBounds_toArray]); (try simp only [List.set_cons_succ]); (try simp only [List.set_cons_zero])
        refine wpAny_ready (rs := [3, 5]) (by kernel_rfl) (by simp) ?_
        refine AllReady.cons opAt3 (fun K hK => ?_) ?_
        · refine step_make (by rfl) 50 _ _ (by rfl) (wb + 1) 4 i4 (.bool false) 1 Try.underlying50 hi4 z4 s4 b4 rfl i (by rfl) (by rfl) hnl (by decide) (by have h1 := own_lt WO0.out rfl; simp only at h1; omega) ?_
          intro V1 ho hk hsz
          obtain ⟨hd, hg⟩ : ∃ g, V0.heap.size = g := ⟨_, rfl⟩
          rw [hg] at ho ⊢
          have GHD := Lib.hid (show wr.heap.size ≤ hd from by rw [← hg]; exact K0.out.size)
          have HD := Lib.hid ho
          have K1 := Lib.hid (K0.out.trans hk (fun _ _ h => h) (fun _ _ f => f.elim) : Kept (fun k => k = wb) wr V1)
          have WO1 := Lib.hid (own_keptS WO0.out hk (fun _ _ f => f))
          clear ho hk hsz hg
          refine hK _ _ ?_
          clear hK K
          (try simp only [Act.put]); (try simp only [List.setIfInBounds_toArray]); (try simp only [List.set_cons_succ]); (try simp only [List.set_cons_zero])
          refine wpAny_take (i := 6) (v := ?_) opAt6 (by kernel_rfl) (by kernel_rfl) (by kernel_rfl) (fun _ _ _ h => h) (Or.inl ⟨by rfl, ?_⟩) ?_
          case refine_2 => (intro w; go_simp; all_goals (with_reducible rfl))
          (try simp only [Act.put]); (try simp only [List.setIfInBounds_toArray]); (try simp only [List.set_cons_succ]); (try simp only [List.set_cons_zero])
          refine wpAny_take (i := 7) (v := ?_) opAt7 (by kernel_rfl) (by kernel_rfl) (by kernel_rfl) (fun _ _ _ h => h) (Or.inl ⟨by rfl, ?_⟩) ?_
          case refine_2 => (intro w; go_simp; all_goals (with_reducible rfl))
          (try simp only [Act.put]); (try simp only [List.setIfInBounds_toArray]); (try simp only [List.set_cons_succ]); (try simp only [List.set_cons_zero])
          refine wpAny_ready (rs := [5, 8]) (by kernel_rfl) (by simp) ?_
          refine AllReady.cons opAt5 (fun K hK => ?_) ?_
          · refine step_make (by rfl) 51 _ _ (by rfl) (wb + 1) 49 i49 (.slice none 0 0) 24 Try.underlying51 hi49 z49 s49 b49 rfl i (by rfl) (by rfl) hnl (by decide) (by have h1 := own_lt WO1.out rfl; simp only at h1; omega) ?_
            intro V2 ho hk hsz
            obtain ⟨kd, hg⟩ : ∃ g, V1.heap.size = g := ⟨_, rfl⟩
            rw [hg] at ho ⊢
            have GKD := Lib.hid (show wr.heap.size ≤ kd from by rw [← hg]; exact K1.out.size)
            have NE := Lib.hid (show hd ≠ kd from by have h1 := own_lt HD.out rfl; simp only at h1; omega)
            have HD := Lib.hid (own_keptS HD.out hk (fun _ _ f => f))
            have KD := Lib.hid ho
            have K2 := Lib.hid (K1.out.trans hk (fun _ _ h => h) (fun _ _ f => f.elim) : Kept (fun k => k = wb) wr V2)
            have WO2 := Lib.hid (own_keptS WO1.out hk (fun _ _ f => f))
            clear ho hk hsz hg
            refine hK _ _ ?_
            clear hK K
            (try simp only [Act.put]); (try simp only [List.setIfInBounds_toArray]); (try simp only [List.set_cons_succ]); (try simp only [List.set_cons_zero])
            refine wpAny_ready (rs := [8]) (by kernel_rfl) (by simp) ?_
            refine AllReady.cons opAt8 (fun K hK => ?_) AllReady.nil
            refine step_store1 (by rfl) 50 _ _ (by rfl) wb 2 (.slice (some ⟨hd, 0, none⟩) i i) (by rfl) (by rfl) (by rw [own_cellN WO2.out (i := 2) rfl]; rfl) (WO2.out.frozenAt _) sz50 rfl rfl ?_
            intro V3 hV
            have WO3 := Lib.hid (show V3.ownsRow wb 53 4 (.slice (some ⟨wb, 0, none⟩) 1 1) 1 [.slice ao i cap, .slice ap i cp, .slice (some ⟨hd, 0, none⟩) i i, .slice none 0 0] from by rw [hV]; exact own_putN WO2.out 2 _)
            have KP := Lib.hid (show Kept (fun k => k = wb) V2 V3 from by rw [hV]; exact kept_put V2 wb 2 _)
            have K3 := Lib.hid (K2.out.trans KP.out (fun _ _ h => h) (fun _ _ h => h) : Kept (fun k => k = wb) wr V3)
            have HD := Lib.hid (own_keptS HD.out KP.out (fun b hb e => by have h1 := own_lt HD.out hb; omega))
            have KD := Lib.hid (own_keptS KD.out KP.out (fun b hb e => by have h1 := own_lt KD.out hb; omega))
            clear hV KP
            refine hK _ _ ?_
            clear hK K
            (try simp only [Act.put]); (try simp only [List.setIfInBounds_toArray]); (try simp only [List.set_cons_succ]); (try simp only [List.set_cons_zero])
            refine wpAny_take (i := 9) (v := ?_) opAt9 (by kernel_rfl) (by kernel_rfl) (by kernel_rfl) (fun _ _ _ h => h) (Or.inl ⟨by rfl, ?_⟩) ?_
            case refine_2 => (intro w; go_simp; all_goals (with_reducible rfl))
            (try simp only [Act.put]); (try simp only [List.setIfInBounds_toArray]); (try simp only [List.set_cons_succ]); (try simp only [List.set_cons_zero])
            refine wpAny_take (i := 10) (v := ?_) opAt10 (by kernel_rfl) (by kernel_rfl) (by kernel_rfl) (fun _ _ _ h => h) (Or.inl ⟨by rfl, ?_⟩) ?_
            case refine_2 => (intro w; go_simp; all_goals (with_reducible rfl))
            (try simp only [Act.put]); (try simp only [List.setIfInBounds_toArray]); (try simp only [List.set_cons_succ]); (try simp only [List.set_cons_zero])
            refine wpAny_ready (rs := [11]) (by kernel_rfl) (by simp) ?_
            refine AllReady.cons opAt11 (fun K hK => ?_) AllReady.nil
            refine step_store1 (by rfl) 51 _ _ (by rfl) wb 3 (.slice (some ⟨kd, 0, none⟩) i i) (by rfl) (by rfl) (by rw [own_cellN WO3.out (i := 3) rfl]; rfl) (WO3.out.frozenAt _) sz51 rfl rfl ?_
            intro V4 hV
            have WO4 := Lib.hid (show V4.ownsRow wb 53 4 (.slice (some ⟨wb, 0, none⟩) 1 1) 1 [.slice ao i cap, .slice ap i cp, .slice (some ⟨hd, 0, none⟩) i i, .slice (some ⟨kd, 0, none⟩) i i] from by rw [hV]; exact own_putN WO3.out 3 _)
            have KP := Lib.hid (show Kept (fun k => k = wb) V3 V4 from by rw [hV]; exact kept_put V3 wb 3 _)
            have K4 := Lib.hid (K3.out.trans KP.out (fun _ _ h => h) (fun _ _ h => h) : Kept (fun k => k = wb) wr V4)
            have HD := Lib.hid (own_keptS HD.out KP.out (fun b hb e => by have h1 := own_lt HD.out hb; omega))
            have KD := Lib.hid (own_keptS KD.out KP.out (fun b hb e => by have h1 := own_lt KD.out hb; omega))
            clear hV KP
            refine hK _ _ ?_
            clear hK K
            (try simp only [Act.put]); (try simp only [List.setIfInBounds_toArray]); (try simp only [List.set_cons_succ]); (try simp only [List.set_cons_zero])
            refine wpAny_done (by kernel_rfl) ?_ _
            exact HC hd kd V4 ⟨K4.out, GHD.out, GKD.out, NE.out, WO4.out, HD.out, KD.out⟩
          refine AllReady.cons opAt8 (fun K hK => ?_) AllReady.nil
          refine step_store1 (by rfl) 50 _ _ (by rfl) wb 2 (.slice (some ⟨hd, 0, none⟩) i i) (by rfl) (by rfl) (by rw [own_cellN WO1.out (i := 2) rfl]; rfl) (WO1.out.frozenAt _) sz50 rfl rfl ?_
          intro V2 hV
          have WO2 := Lib.hid (show V2.ownsRow wb 53 4 (.slice (some ⟨wb, 0, none⟩) 1 1) 1 [.slice ao i cap, .slice ap i cp, .slice (some ⟨hd, 0, none⟩) i i, .slice none 0 0] from by rw [hV]; exact own_putN WO1.out 2 _)
          have KP := Lib.hid (show Kept (fun k => k = wb) V1 V2 from by rw [hV]; exact kept_put V1 wb 2 _)
          have K2 := Lib.hid (K1.out.trans KP.out (fun _ _ h => h) (fun _ _ h => h) : Kept (fun k => k = wb) wr V2)
          have HD := Lib.hid (own_keptS HD.out KP.out (fun b hb e => by have h1 := own_lt HD.out hb; omega))
          clear hV KP
          refine hK _ _ ?_
          clear hK K
          (try simp only [Act.put]); (try simp only [List.setIfInBounds_toArray]); (try simp only [List.set_cons_succ]); (try simp only [List.set_cons_zero])
          refine wpAny_ready (rs := [5]) (by kernel_rfl) (by simp) ?_
          refine AllReady.cons opAt5 (fun K hK => ?_) AllReady.nil
          refine step_make (by rfl) 51 _ _ (by rfl) (wb + 1) 49 i49 (.slice none 0 0) 24 Try.underlying51 hi49 z49 s49 b49 rfl i (by rfl) (by rfl) hnl (by decide) (by have h1 := own_lt WO2.out rfl; simp only at h1; omega) ?_
          intro V3 ho hk hsz
          obtain ⟨kd, hg⟩ : ∃ g, V2.heap.size = g := ⟨_, rfl⟩
          rw [hg] at ho ⊢
          have GKD := Lib.hid (show wr.heap.size ≤ kd from by rw [← hg]; exact K2.out.size)
          have NE := Lib.hid (show hd ≠ kd from by have h1 := own_lt HD.out rfl; simp only at h1; omega)
          have HD := Lib.hid (own_keptS HD.out hk (fun _ _ f => f))
          have KD := Lib.hid ho
          have K3 := Lib.hid (K2.out.trans hk (fun _ _ h => h) (fun _ _ f => f.elim) : Kept (fun k => k = wb) wr V3)
          have WO3 := Lib.hid (own_keptS WO2.out hk (fun _ _ f => f))
          clear ho hk hsz hg
          refine hK _ _ ?_
          clear hK K
          (try simp only [Act.put]); (try simp only [List.setIfInBounds_toArray]); (try simp only [List.set_cons_succ]); (try simp only [List.set_cons_zero])
          refine wpAny_take (i := 9) (v := ?_) opAt9 (by kernel_rfl) (by kernel_rfl) (by kernel_rfl) (fun _ _ _ h => h) (Or.inl ⟨by rfl, ?_⟩) ?_
          case refine_2 => (intro w; go_simp; all_goals (with_reducible rfl))
          (try simp only [Act.put]); (try simp only [List.setIfInBounds_toArray]); (try simp only [List.set_cons_succ]); (try simp only [List.set_cons_zero])
          refine wpAny_take (i := 10) (v := ?_) opAt10 (by kernel_rfl) (by kernel_rfl) (by kernel_rfl) (fun _ _ _ h => h) (Or.inl ⟨by rfl, ?_⟩) ?_
          case refine_2 => (intro w; go_simp; all_goals (with_reducible rfl))
          (try simp only [Act.put]); (try simp only [List.setIfInBounds_toArray]); (try simp only [List.set_cons_succ]); (try simp only [List.set_cons_zero])
          refine wpAny_ready (rs := [11]) (by kernel_rfl) (by simp) ?_
          refine AllReady.cons opAt11 (fun K hK => ?_) AllReady.nil
          refine step_store1 (by rfl) 51 _ _ (by rfl) wb 3 (.slice (some ⟨kd, 0, none⟩) i i) (by rfl) (by rfl) (by rw [own_cellN WO3.out (i := 3) rfl]; rfl) (WO3.out.frozenAt _) sz51 rfl rfl ?_
          intro V4 hV
          have WO4 := Lib.hid (show V4.ownsRow wb 53 4 (.slice (some ⟨wb, 0, none⟩) 1 1) 1 [.slice ao i cap, .slice ap i cp, .slice (some ⟨hd, 0, none⟩) i i, .slice (some ⟨kd, 0, none⟩) i i] from by rw [hV]; exact own_putN WO3.out 3 _)
          have KP := Lib.hid (show Kept (fun k => k = wb) V3 V4 from by rw [hV]; exact kept_put V3 wb 3 _)
          have K4 := Lib.hid (K3.out.trans KP.out (fun _ _ h => h) (fun _ _ h => h) : Kept (fun k => k = wb) wr V4)
          have HD := Lib.hid (own_keptS HD.out KP.out (fun b hb e => by have h1 := own_lt HD.out hb; omega))
          have KD := Lib.hid (own_keptS KD.out KP.out (fun b hb e => by have h1 := own_lt KD.out hb; omega))
          clear hV KP
          refine hK _ _ ?_
          clear hK K
          (try simp only [Act.put]); (try simp only [List.setIfInBounds_toArray]); (try simp only [List.set_cons_succ]); (try simp only [List.set_cons_zero])
          refine wpAny_done (by kernel_rfl) ?_ _
          exact HC hd kd V4 ⟨K4.out, GHD.out, GKD.out, NE.out, WO4.out, HD.out, KD.out⟩
        refine AllReady.cons opAt5 (fun K hK => ?_) AllReady.nil
        refine step_make (by rfl) 51 _ _ (by rfl) (wb + 1) 49 i49 (.slice none 0 0) 24 Try.underlying51 hi49 z49 s49 b49 rfl i (by rfl) (by rfl) hnl (by decide) (by have h1 := own_lt WO0.out rfl; simp only at h1; omega) ?_
        intro V1 ho hk hsz
        obtain ⟨kd, hg⟩ : ∃ g, V0.heap.size = g := ⟨_, rfl⟩
        rw [hg] at ho ⊢
        have GKD := Lib.hid (show wr.heap.size ≤ kd from by rw [← hg]; exact K0.out.size)
        have KD := Lib.hid ho
        have K1 := Lib.hid (K0.out.trans hk (fun _ _ h => h) (fun _ _ f => f.elim) : Kept (fun k => k = wb) wr V1)
        have WO1 := Lib.hid (own_keptS WO0.out hk (fun _ _ f => f))
        clear ho hk hsz hg
        refine hK _ _ ?_
        clear hK K
        (try simp only [Act.put]); (try simp only [List.setIfInBounds_toArray]); (try simp only [List.set_cons_succ]); (try simp only [List.set_cons_zero])
        refine wpAny_ready (rs := [3]) (by kernel_rfl) (by simp) ?_
        refine AllReady.cons opAt3 (fun K hK => ?_) AllReady.nil
        refine step_make (by rfl) 50 _ _ (by rfl) (wb + 1) 4 i4 (.bool false) 1 Try.underlying50 hi4 z4 s4 b4 rfl i (by rfl) (by rfl) hnl (by decide) (by have h1 := own_lt WO1.out rfl; simp only at h1; omega) ?_
        intro V2 ho hk hsz
        obtain ⟨hd, hg⟩ : ∃ g, V1.heap.size = g := ⟨_, rfl⟩
        rw [hg] at ho ⊢
        have GHD := Lib.hid (show wr.heap.size ≤ hd from by rw [← hg]; exact K1.out.size)
        have NE := Lib.hid (show hd ≠ kd from by have h1 := own_lt KD.out rfl; simp only at h1; omega)
        have KD := Lib.hid (own_keptS KD.out hk (fun _ _ f => f))
        have HD := Lib.hid ho
        have K2 := Lib.hid (K1.out.trans hk (fun _ _ h => h) (fun _ _ f => f.elim) : Kept (fun k => k = wb) wr V2)
        have WO2 := Lib.hid (own_keptS WO1.out hk (fun _ _ f => f))
        clear ho hk hsz hg
        refine hK _ _ ?_
        clear hK K
        (try simp only [Act.put]); (try simp only [List.setIfInBounds_toArray]); (try simp only [List.set_cons_succ]); (try simp only [List.set_cons_zero])
        refine wpAny_take (i := 6) (v := ?_) opAt6 (by kernel_rfl) (by kernel_rfl) (by kernel_rfl) (fun _ _ _ h => h) (Or.inl ⟨by rfl, ?_⟩) ?_
        case refine_2 => (intro w; go_simp; all_goals (with_reducible rfl))
        (try simp only [Act.put]); (try simp only [List.setIfInBounds_toArray]); (try simp only [List.set_cons_succ]); (try simp only [List.set_cons_zero])
        refine wpAny_take (i := 7) (v := ?_) opAt7 (by kernel_rfl) (by kernel_rfl) (by kernel_rfl) (fun _ _ _ h => h) (Or.inl ⟨by rfl, ?_⟩) ?_
        case refine_2 => (intro w; go_simp; all_goals (with_reducible rfl))
        (try simp only [Act.put]); (try simp only [List.setIfInBounds_toArray]); (try simp only [List.set_cons_succ]); (try simp only [List.set_cons_zero])
        refine wpAny_ready (rs := [8]) (by kernel_rfl) (by simp) ?_
        refine AllReady.cons opAt8 (fun K hK => ?_) AllReady.nil
        refine step_store1 (by rfl) 50 _ _ (by rfl) wb 2 (.slice (some ⟨hd, 0, none⟩) i i) (by rfl) (by rfl) (by rw [own_cellN WO2.out (i := 2) rfl]; rfl) (WO2.out.frozenAt _) sz50 rfl rfl ?_
        intro V3 hV
        have WO3 := Lib.hid (show V3.ownsRow wb 53 4 (.slice (some ⟨wb, 0, none⟩) 1 1) 1 [.slice ao i cap, .slice ap i cp, .slice (some ⟨hd, 0, none⟩) i i, .slice none 0 0] from by rw [hV]; exact own_putN WO2.out 2 _)
        have KP := Lib.hid (show Kept (fun k => k = wb) V2 V3 from by rw [hV]; exact kept_put V2 wb 2 _)
        have K3 := Lib.hid (K2.out.trans KP.out (fun _ _ h => h) (fun _ _ h => h) : Kept (fun k => k = wb) wr V3)
        have HD := Lib.hid (own_keptS HD.out KP.out (fun b hb e => by have h1 := own_lt HD.out hb; omega))
        have KD := Lib.hid (own_keptS KD.out KP.out (fun b hb e => by have h1 := own_lt KD.out hb; omega))
        clear hV KP
        refine hK _ _ ?_
        clear hK K
        (try simp only [Act.put]); (try simp only [List.setIfInBounds_toArray]); (try simp only [List.set_cons_succ]); (try simp only [List.set_cons_zero])
        refine wpAny_take (i := 9) (v := ?_) opAt9 (by kernel_rfl) (by kernel_rfl) (by kernel_rfl) (fun _ _ _ h => h) (Or.inl ⟨by rfl, ?_⟩) ?_
        case refine_2 => (intro w; go_simp; all_goals (with_reducible rfl))
        (try simp only [Act.put]); (try simp only [List.setIfInBounds_toArray]); (try simp only [List.set_cons_succ]); (try simp only [List.set_cons_zero])
        refine wpAny_take (i := 10) (v := ?_) opAt10 (by kernel_rfl) (by kernel_rfl) (by kernel_rfl) (fun _ _ _ h => h) (Or.inl ⟨by rfl, ?_⟩) ?_
        case refine_2 => (intro w; go_simp; all_goals (with_reducible rfl))
        (try simp only [Act.put]); (try simp only [List.setIfInBounds_toArray]); (try simp only [List.set_cons_succ]); (try simp only [List.set_cons_zero])
        refine wpAny_ready (rs := [11]) (by kernel_rfl) (by simp) ?_
        refine AllReady.cons opAt11 (fun K hK => ?_) AllReady.nil
        refine step_store1 (by rfl) 51 _ _ (by rfl) wb 3 (.slice (some ⟨kd, 0, none⟩) i i) (by rfl) (by rfl) (by rw [own_cellN WO3.out (i := 3) rfl]; rfl) (WO3.out.frozenAt _) sz51 rfl rfl ?_
        intro V4 hV
        have WO4 := Lib.hid (show V4.ownsRow wb 53 4 (.slice (some ⟨wb, 0, none⟩) 1 1) 1 [.slice ao i cap, .slice ap i cp, .slice (some ⟨hd, 0, none⟩) i i, .slice (some ⟨kd, 0, none⟩) i i] from by rw [hV]; exact own_putN WO3.out 3 _)
        have KP := Lib.hid (show Kept (fun k => k = wb) V3 V4 from by rw [hV]; exact kept_put V3 wb 3 _)
        have K4 := Lib.hid (K3.out.trans KP.out (fun _ _ h => h) (fun _ _ h => h) : Kept (fun k => k = wb) wr V4)
        have HD := Lib.hid (own_keptS HD.out KP.out (fun b hb e => by have h1 := own_lt HD.out hb; omega))
        have KD := Lib.hid (own_keptS KD.out KP.out (fun b hb e => by have h1 := own_lt KD.out hb; omega))
        clear hV KP
        refine hK _ _ ?_
        clear hK K
        (try simp only [Act.put]); (try simp only [List.setIfInBounds_toArray]); (try simp only [List.set_cons_succ]); (try simp only [List.set_cons_zero])
        refine wpAny_done (by kernel_rfl) ?_ _
        exact HC hd kd V4 ⟨K4.out, GHD.out, GKD.out, NE.out, WO4.out, HD.out, KD.out⟩
      case h2 =>
        intro hd kd w2 hlaid
        have LD := Lib.hid hlaid
        have c0' := own_cellN hlaid.wood (i := 0) rfl
        clear hlaid c0
        have BL := Lib.hid (show wb ≠ hd ∧ wb ≠ kd ∧ gp ≠ hd ∧ gp ≠ kd from by
          have h1 := own_lt LD.out.head rfl
          have h2 := own_lt LD.out.kids rfl
          have h3 := LD.out.gh_new
          have h4 := LD.out.gk_new
          have h5 := GPL.out
          simp only at h1 h2
          omega)
        have GPW := Lib.hid (show ∀ x, x < i → w2.cell? ⟨gp, x, none⟩ = some (.int .i64 (pInt (pF R x))) from fun x hx => LD.out.kept.cell ((HPC.out (by omega)).2 x hx) (HPC.out (by omega)).1)
        have HZ := Lib.hid (show List.replicate i (Value.bool false) = bools (List.replicate i false) from by simp [bools])
        go_wp2
        go_loopg [58] i (fun ghv s wr' => ∃ (j : Nat) (Hs : List Bool), j + ghv = i ∧ s = .int .i64 j ∧ Hs.length = i ∧ wr'.ownsRow (wb + 1) 4 1 (.slice (some ⟨hd, 0, none⟩) i i) i (bools Hs) ∧ (∀ x, x < j → nth Hs x = lostF R x) ∧ Kept (fun k => k = hd) w2 wr')
        case atStart => exact ⟨0, List.replicate i false, by omega, by go_num, by simp, by rw [← HZ.out]; exact LD.out.head, fun x h => by omega, Kept.refl _ _⟩
        case round =>
          obtain ⟨j, Hs, hg2, rfl, hhl, hho, hlo, hk2⟩ := hrel
          have G2 := Lib.hid hg2; have HL := Lib.hid hhl; have HO := Lib.hid hho; have HLO := Lib.hid hlo; have KJ := Lib.hid hk2
          clear hg2 hhl hho hlo hk2
          by_cases hjn : j < i
          · have j0 : (j : Int) < (i : Int) := by omega
            have j1 : (0 : Int) ≤ (j : Int) := by omega
            have e2 : IntKind.i64.wrap ((j : Int) + 1) = ((j + 1 : Nat) : Int) := IntWalk.i64_in _ (by omega)
            obtain ⟨g, o, rfl, hc⟩ : ∃ g o, ao = some ⟨g, o, none⟩ ∧ ∀ j u, (cellsS R)[j]? = some u → w1.cell? ⟨g, o + j, none⟩ = some u := by
              rcases RD.out with h | h
              · have := HN.out; subst h; simp at this; omega
              · exact h
            obtain rfl := HAP.out (by omega)
            obtain ⟨y, hy⟩ : ∃ y, nth R j = y := ⟨_, rfl⟩
            have gy := nth_get (l := R) (k := j) (by have := HN.out; omega)
            rw [hy] at gy
            have HY := Lib.hid hy; have HC := Lib.hid hc
            have OLD := Lib.hid (show ∀ a u, w1.cell? a = some u → wr.cell? a = some u from fun a u h => KJ.out.cell (LD.out.kept.cell (KK.out.cell h (fun f => f)) (fun e => by have h1 := World.block_lt_of_cell? _ _ h; have h2 := HWB.out; omega)) (fun e => by have h1 := World.block_lt_of_cell? _ _ h; have h2 := HWB.out; have h3 := own_lt LD.out.head rfl; simp only at h3; omega))
            have ry := ReadsS.range (fun j u hu => OLD.out _ _ (hc j u hu)) gy
            clear hy gy hc
            go_wp2_with (first | (refine wpList_load_mid (by rfl) 24 _ (by rfl) g (o + j * 8) (by rfl) y.cells _ ry Try.underlying24 rfl info24 ?_) | (refine wpList_store_letter (by rfl) 24 _ _ (by rfl) wr.heap.size 0 y.cells.toArray (by rfl) (by rfl) (own_there (copy_own wr) (i := 0) (by simp)) info24 (cells_all y) ?_; intro W hW; obtain ⟨sb, cpd⟩ := copied wr W y hW; have CP := Lib.hid cpd; have hnew := cpd.new; rw [hnew] at *; clear cpd hW hnew))
            have HOW := Lib.hid (own_keptS HO.out CP.out.kept (fun _ _ f => f))
            have SS := Lib.hid (show ∀ w', Kept (fun _ => False) W w' → w'.cell? ⟨wb, 2, none⟩ = some (.slice (some ⟨hd, 0, none⟩) i i) ∧ w'.cell? ⟨sb, 2, none⟩ = some (.int .i64 y.pa) ∧ w'.cell? ⟨wb, 1, none⟩ = some (.slice (some ⟨gp, 0, none⟩) i cp) ∧ w'.cell? ⟨gp, j, none⟩ = some (.int .i64 (pInt (pF R j))) from fun w' k => ⟨k.cell (CP.out.kept.cell (KJ.out.cell (own_cellN LD.out.wood (i := 2) rfl) BL.out.1) (fun f => f)) (fun f => f), k.cell (CP.out.at_ 2 _ rfl) (fun f => f), k.cell (CP.out.kept.cell (KJ.out.cell (own_cellN LD.out.wood (i := 1) rfl) BL.out.1) (fun f => f)) (fun f => f), k.cell (CP.out.kept.cell (KJ.out.cell (GPW.out j hjn) BL.out.2.2.1) (fun f => f)) (fun f => f)⟩)
            by_cases pz : y.pa = 0
            · have pz1 : (y.pa != 0) = false := by simp [pz]
              have PZ := Lib.hid pz
              clear pz
              refine wp_region_last 19 (fun w' => w'.cell? ⟨wb, 2, none⟩ = some (.slice (some ⟨hd, 0, none⟩) i i) ∧ w'.cell? ⟨sb, 2, none⟩ = some (.int .i64 y.pa) ∧ w'.cell? ⟨wb, 1, none⟩ = some (.slice (some ⟨gp, 0, none⟩) i cp) ∧ w'.cell? ⟨gp, j, none⟩ = some (.int .i64 (pInt (pF R j)))) (by kernel_rfl) ?_
              have k0 := (Kept.refl (fun _ => False) W).drew
              have hHeld := SS.out _ k0
              simp only [List.size_toArray, List.length_cons, List.length_nil, Nat.zero_add, Nat.reduceAdd]
              refine wpAnyF_take (i := 0) (v := ?_) opAt0 (by kernel_rfl) (by kernel_rfl) (by kernel_rfl) (by kernel_rfl) (by decide) (fun _ _ _ h => h) (Or.inl ⟨by rfl, ?_⟩) hHeld ?_
              case refine_2 => (intro w hSw; (try dsimp only at hSw); go_simp; all_goals (with_reducible rfl))
              (try simp only [Act.put]); (try simp only [List.setIfInBounds_toArray]); (try simp only [List.set_cons_succ]); (try simp only [List.set_cons_zero])
              refine wpAnyF_take (i := 1) (v := ?_) opAt1 (by kernel_rfl) (by kernel_rfl) (by kernel_rfl) (by kernel_rfl) (by decide) (fun _ _ _ h => h) (Or.inl ⟨by rfl, ?_⟩) hHeld ?_
              case refine_2 => (intro w hSw; (try dsimp only at hSw); go_simp; all_goals (with_reducible rfl))
              (try simp only [Act.put]); (try simp only [List.setIfInBounds_toArray]); (try simp only [List.set_cons_succ]); (try simp only [List.set_cons_zero])
              refine wpAnyF_take (i := 2) (v := ?_) opAt2 (by kernel_rfl) (by kernel_rfl) (by kernel_rfl) (by kernel_rfl) (by decide) (fun _ _ _ h => h) (Or.inl ⟨by rfl, ?_⟩) hHeld ?_
              case refine_2 => (intro w hSw; (try dsimp only at hSw); go_simp; all_goals (with_reducible rfl))
              (try simp only [Act.put]); (try simp only [List.setIfInBounds_toArray]); (try simp only [List.set_cons_succ]); (try simp only [List.set_cons_zero])
              refine wpAnyF_take (i := 3) (v := ?_) opAt3 (by kernel_rfl) (by kernel_rfl) (by kernel_rfl) (by kernel_rfl) (by decide) (fun _ _ _ h => h) (Or.inl ⟨by rfl, ?_⟩) hHeld ?_
              case refine_2 => (intro w hSw; (try dsimp only at hSw); go_simp; all_goals (with_reducible rfl))
              (try simp only [Act.put]); (try simp only [List.setIfInBounds_toArray]); (try simp only [List.set_cons_succ]); (try simp only [List.set_cons_zero])
              refine wpAnyF_take (i := 4) (v := ?_) opAt4 (by kernel_rfl) (by kernel_rfl) (by kernel_rfl) (by kernel_rfl) (by decide) (fun _ _ _ h => h) (Or.inl ⟨by rfl, ?_⟩) hHeld ?_
              case refine_2 => (intro w hSw; (try dsimp only at hSw); go_simp; all_goals (with_reducible rfl))
              (try simp only [Act.put]); (try simp only [List.setIfInBounds_toArray]); (try simp only [List.set_cons_succ]); (try simp only [List.set_cons_zero])
              refine wpAnyF_take (i := 5) (v := ?_) opAt5 (by kernel_rfl) (by kernel_rfl) (by kernel_rfl) (by kernel_rfl) (by decide) (fun _ _ _ h => h) (Or.inl ⟨by rfl, ?_⟩) hHeld ?_
              case refine_2 => (intro w hSw; (try dsimp only at hSw); go_simp; all_goals (with_reducible rfl))
              (try simp only [Act.put]); (try simp only [List.setIfInBounds_toArray]); (try simp only [List.set_cons_succ]); (try simp only [List.set_cons_zero])
              refine wpAnyF_take (i := 6) (v := ?_) opAt6 (by kernel_rfl) (by kernel_rfl) (by kernel_rfl) (by kernel_rfl) (by decide) (fun _ _ _ h => h) (Or.inl ⟨by rfl, ?_⟩) hHeld ?_
              case refine_2 => (intro w hSw; (try dsimp only at hSw); go_simp; all_goals (with_reducible rfl))
              (try simp only [Act.put]); (try simp only [List.setIfInBounds_toArray]); (try simp only [List.set_cons_succ]); (try simp only [List.set_cons_zero])
              refine wpAnyF_take (i := 7) (v := ?_) opAt7 (by kernel_rfl) (by kernel_rfl) (by kernel_rfl) (by kernel_rfl) (by decide) (fun _ _ _ h => h) (Or.inl ⟨by rfl, ?_⟩) hHeld ?_
              case refine_2 => (intro w hSw; (try dsimp only at hSw); go_simp; all_goals (with_reducible rfl))
              (try simp only [Act.put]); (try simp only [List.setIfInBounds_toArray]); (try simp only [List.set_cons_succ]); (try simp only [List.set_cons_zero])
              refine wpAnyF_take (i := 8) (v := ?_) opAt8 (by kernel_rfl) (by kernel_rfl) (by kernel_rfl) (by kernel_rfl) (by decide) (fun _ _ _ h => h) (Or.inl ⟨by rfl, ?_⟩) hHeld ?_
              case refine_2 => (intro w hSw; (try dsimp only at hSw); go_simp; all_goals (with_reducible rfl))
              (try simp only [Act.put]); (try simp only [List.setIfInBounds_toArray]); (try simp only [List.set_cons_succ]); (try simp only [List.set_cons_zero])
              refine wpAnyF_take (i := 9) opAt9 (by kernel_rfl) (by kernel_rfl) (by kernel_rfl) (by kernel_rfl) (by decide) (fun _ _ _ h => h) (Or.inr ⟨by rfl, rfl⟩) hHeld ?_
              (try simp only [Act.put]); (try simp only [List.setIfInBounds_toArray]); (try simp only [List.set_cons_succ]); (try simp only [List.set_cons_zero])
              refine wpAnyF_take (i := 10) opAt10 (by kernel_rfl) (by kernel_rfl) (by kernel_rfl) (by kernel_rfl) (by decide) (fun _ _ _ h => h) (Or.inr ⟨by rfl, rfl⟩) hHeld ?_
              (try simp only [Act.put]); (try simp only [List.setIfInBounds_toArray]); (try simp only [List.set_cons_succ]); (try simp only [List.set_cons_zero])
              refine wpAnyF_take (i := 11) opAt11 (by kernel_rfl) (by kernel_rfl) (by kernel_rfl) (by kernel_rfl) (by decide) (fun _ _ _ h => h) (Or.inr ⟨by rfl, rfl⟩) hHeld ?_
              (try simp only [Act.put]); (try simp only [List.setIfInBounds_toArray]); (try simp only [List.set_cons_succ]); (try simp only [List.set_cons_zero])
              refine wpAnyF_take (i := 12) opAt12 (by kernel_rfl) (by kernel_rfl) (by kernel_rfl) (by kernel_rfl) (by decide) (fun _ _ _ h => h) (Or.inr ⟨by rfl, rfl⟩) hHeld ?_
              (try simp only [Act.put]); (try simp only [List.setIfInBounds_toArray]); (try simp only [List.set_cons_succ]); (try simp only [List.set_cons_zero])
              refine wpAnyF_take (i := 13) opAt13 (by kernel_rfl) (by kernel_rfl) (by kernel_rfl) (by kernel_rfl) (by decide) (fun _ _ _ h => h) (Or.inr ⟨by rfl, rfl⟩) hHeld ?_
              (try simp only [Act.put]); (try simp only [List.setIfInBounds_toArray]); (try simp only [List.set_cons_succ]); (try simp only [List.set_cons_zero])
              refine wpAnyF_take (i := 14) opAt14 (by kernel_rfl) (by kernel_rfl) (by kernel_rfl) (by kernel_rfl) (by decide) (fun _ _ _ h => h) (Or.inr ⟨by rfl, rfl⟩) hHeld ?_
              (try simp only [Act.put]); (try simp only [List.setIfInBounds_toArray]); (try simp only [List.set_cons_succ]); (try simp only [List.set_cons_zero])
              refine wpAnyF_take (i := 15) opAt15 (by kernel_rfl) (by kernel_rfl) (by kernel_rfl) (by kernel_rfl) (by decide) (fun _ _ _ h => h) (Or.inr ⟨by rfl, rfl⟩) hHeld ?_
              (try simp only [Act.put]); (try simp only [List.setIfInBounds_toArray]); (try simp only [List.set_cons_succ]); (try simp only [List.set_cons_zero])
              refine wpAnyF_take (i := 16) opAt16 (by kernel_rfl) (by kernel_rfl) (by kernel_rfl) (by kernel_rfl) (by decide) (fun _ _ _ h => h) (Or.inr ⟨by rfl, rfl⟩) hHeld ?_
              (try simp only [Act.put]); (try simp only [List.setIfInBounds_toArray]); (try simp only [List.set_cons_succ]); (try simp only [List.set_cons_zero])
              refine wpAnyF_take (i := 17) (v := ?_) opAt17 (by kernel_rfl) (by kernel_rfl) (by kernel_rfl) (by kernel_rfl) (by decide) (fun _ _ _ h => h) (Or.inl ⟨by rfl, ?_⟩) hHeld ?_
              case refine_2 => (intro w hSw; (try dsimp only at hSw); go_simp; all_goals (with_reducible rfl))
              (try simp only [Act.put]); (try simp only [List.setIfInBounds_toArray]); (try simp only [List.set_cons_succ]); (try simp only [List.set_cons_zero])
              refine wpAnyF_take (i := 18) (v := ?_) opAt18 (by kernel_rfl) (by kernel_rfl) (by kernel_rfl) (by kernel_rfl) (by decide) (fun _ _ _ h => h) (Or.inl ⟨by rfl, ?_⟩) hHeld ?_
              case refine_2 => (intro w hSw; (try dsimp only at hSw); go_simp; all_goals (with_reducible rfl))
              (try simp only [Act.put]); (try simp only [List.setIfInBounds_toArray]); (try simp only [List.set_cons_succ]); (try simp only [List.set_cons_zero])
              refine next1 19 (by kernel_rfl) opAt19 fun K' hK => ?_
              refine step_store1 (by rfl) 4 _ _ (by rfl) hd j (.bool false) (by rfl) (by rfl) ?_ (HOW.out.frozenAt _) sz4 rfl rfl ?_
              · rw [own_cell (World.ownsRow.drew HOW.out) (bools_at (by rw [HL.out]; exact hjn))]; rfl
              intro W2 hW2
              have HO2 := Lib.hid (show W2.ownsRow (wb + 1) 4 1 (.slice (some ⟨hd, 0, none⟩) i i) i (bools (Hs.set j false)) from by rw [hW2, ← bools_set]; exact own_put (World.ownsRow.drew HOW.out) j _)
              have KP := Lib.hid (show Kept (fun k => k = hd) W.drew W2 from by rw [hW2]; exact kept_put W.drew hd j _)
              have KJ2 := Lib.hid (((KJ.out.trans CP.out.kept (fun _ _ h => h) (fun _ _ f => f.elim) : Kept (fun k => k = hd) w2 W).drew).trans KP.out (fun _ _ h => h) (fun _ _ h => h) : Kept (fun k => k = hd) w2 W2)
              clear hW2
              refine hK _ _ ⟨fun h => absurd rfl h, ?_⟩
              clear hK K'
              (try simp only [Act.put]); (try simp only [List.setIfInBounds_toArray]); (try simp only [List.set_cons_succ]); (try simp only [List.set_cons_zero])
              refine wpAnyF_done (by kernel_rfl) ?_ _
              go_wp2
              go_roundg (i - (j + 1))
              case measure => have := G2.out; omega
              case rel => exact ⟨j + 1, Hs.set j false, by omega, by go_num, by simpa using HL.out, HO2.out, fun x hx => by
                by_cases c : x = j
                · subst c; rw [nth_set _ _ _ _ (by rw [HL.out]; exact hjn), if_pos rfl, lostF, HY.out]; simp [PZ.out]
                · rw [nth_set _ _ _ _ (by rw [HL.out]; exact hjn), if_neg c]; exact HLO.out x (by omega), KJ2.out⟩
            · have pz1 : (y.pa != 0) = true := by simp [pz]
              have PZ := Lib.hid pz
              clear pz
              refine wp_region_last 19 (fun w' => w'.cell? ⟨wb, 2, none⟩ = some (.slice (some ⟨hd, 0, none⟩) i i) ∧ w'.cell? ⟨sb, 2, none⟩ = some (.int .i64 y.pa) ∧ w'.cell? ⟨wb, 1, none⟩ = some (.slice (some ⟨gp, 0, none⟩) i cp) ∧ w'.cell? ⟨gp, j, none⟩ = some (.int .i64 (pInt (pF R j)))) (by kernel_rfl) ?_
              have k0 := (Kept.refl (fun _ => False) W).drew
              have hHeld := SS.out _ k0
              simp only [List.size_toArray, List.length_cons, List.length_nil, Nat.zero_add, Nat.reduceAdd]
              refine wpAnyF_take (i := 0) (v := ?_) opAt0 (by kernel_rfl) (by kernel_rfl) (by kernel_rfl) (by kernel_rfl) (by decide) (fun _ _ _ h => h) (Or.inl ⟨by rfl, ?_⟩) hHeld ?_
              case refine_2 => (intro w hSw; (try dsimp only at hSw); go_simp; all_goals (with_reducible rfl))
              (try simp only [Act.put]); (try simp only [List.setIfInBounds_toArray]); (try simp only [List.set_cons_succ]); (try simp only [List.set_cons_zero])
              refine wpAnyF_take (i := 1) (v := ?_) opAt1 (by kernel_rfl) (by kernel_rfl) (by kernel_rfl) (by kernel_rfl) (by decide) (fun _ _ _ h => h) (Or.inl ⟨by rfl, ?_⟩) hHeld ?_
              case refine_2 => (intro w hSw; (try dsimp only at hSw); go_simp; all_goals (with_reducible rfl))
              (try simp only [Act.put]); (try simp only [List.setIfInBounds_toArray]); (try simp only [List.set_cons_succ]); (try simp only [List.set_cons_zero])
              refine wpAnyF_take (i := 2) (v := ?_) opAt2 (by kernel_rfl) (by kernel_rfl) (by kernel_rfl) (by kernel_rfl) (by decide) (fun _ _ _ h => h) (Or.inl ⟨by rfl, ?_⟩) hHeld ?_
              case refine_2 => (intro w hSw; (try dsimp only at hSw); go_simp; all_goals (with_reducible rfl))
              (try simp only [Act.put]); (try simp only [List.setIfInBounds_toArray]); (try simp only [List.set_cons_succ]); (try simp only [List.set_cons_zero])
              refine wpAnyF_take (i := 3) (v := ?_) opAt3 (by kernel_rfl) (by kernel_rfl) (by kernel_rfl) (by kernel_rfl) (by decide) (fun _ _ _ h => h) (Or.inl ⟨by rfl, ?_⟩) hHeld ?_
              case refine_2 => (intro w hSw; (try dsimp only at hSw); go_simp; all_goals (with_reducible rfl))
              (try simp only [Act.put]); (try simp only [List.setIfInBounds_toArray]); (try simp only [List.set_cons_succ]); (try simp only [List.set_cons_zero])
              refine wpAnyF_take (i := 4) (v := ?_) opAt4 (by kernel_rfl) (by kernel_rfl) (by kernel_rfl) (by kernel_rfl) (by decide) (fun _ _ _ h => h) (Or.inl ⟨by rfl, ?_⟩) hHeld ?_
              case refine_2 => (intro w hSw; (try dsimp only at hSw); go_simp; all_goals (with_reducible rfl))
              (try simp only [Act.put]); (try simp only [List.setIfInBounds_toArray]); (try simp only [List.set_cons_succ]); (try simp only [List.set_cons_zero])
              refine wpAnyF_take (i := 5) (v := ?_) opAt5 (by kernel_rfl) (by kernel_rfl) (by kernel_rfl) (by kernel_rfl) (by decide) (fun _ _ _ h => h) (Or.inl ⟨by rfl, ?_⟩) hHeld ?_
              case refine_2 => (intro w hSw; (try dsimp only at hSw); go_simp; all_goals (with_reducible rfl))
              (try simp only [Act.put]); (try simp only [List.setIfInBounds_toArray]); (try simp only [List.set_cons_succ]); (try simp only [List.set_cons_zero])
              refine wpAnyF_take (i := 6) (v := ?_) opAt6 (by kernel_rfl) (by kernel_rfl) (by kernel_rfl) (by kernel_rfl) (by decide) (fun _ _ _ h => h) (Or.inl ⟨by rfl, ?_⟩) hHeld ?_
              case refine_2 => (intro w hSw; (try dsimp only at hSw); go_simp; all_goals (with_reducible rfl))
              (try simp only [Act.put]); (try simp only [List.setIfInBounds_toArray]); (try simp only [List.set_cons_succ]); (try simp only [List.set_cons_zero])
              refine wpAnyF_take (i := 7) (v := ?_) opAt7 (by kernel_rfl) (by kernel_rfl) (by kernel_rfl) (by kernel_rfl) (by decide) (fun _ _ _ h => h) (Or.inl ⟨by rfl, ?_⟩) hHeld ?_
              case refine_2 => (intro w hSw; (try dsimp only at hSw); go_simp; all_goals (with_reducible rfl))
              (try simp only [Act.put]); (try simp only [List.setIfInBounds_toArray]); (try simp only [List.set_cons_succ]); (try simp only [List.set_cons_zero])
              refine wpAnyF_take (i := 8) (v := ?_) opAt8 (by kernel_rfl) (by kernel_rfl) (by kernel_rfl) (by kernel_rfl) (by decide) (fun _ _ _ h => h) (Or.inl ⟨by rfl, ?_⟩) hHeld ?_
              case refine_2 => (intro w hSw; (try dsimp only at hSw); go_simp; all_goals (with_reducible rfl))
              (try simp only [Act.put]); (try simp only [List.setIfInBounds_toArray]); (try simp only [List.set_cons_succ]); (try simp only [List.set_cons_zero])
              refine wpAnyF_take (i := 9) (v := ?_) opAt9 (by kernel_rfl) (by kernel_rfl) (by kernel_rfl) (by kernel_rfl) (by decide) (fun _ _ _ h => h) (Or.inl ⟨by rfl, ?_⟩) hHeld ?_
              case refine_2 => (intro w hSw; (try dsimp only at hSw); go_simp; all_goals (with_reducible rfl))
              (try simp only [Act.put]); (try simp only [List.setIfInBounds_toArray]); (try simp only [List.set_cons_succ]); (try simp only [List.set_cons_zero])
              refine wpAnyF_take (i := 10) (v := ?_) opAt10 (by kernel_rfl) (by kernel_rfl) (by kernel_rfl) (by kernel_rfl) (by decide) (fun _ _ _ h => h) (Or.inl ⟨by rfl, ?_⟩) hHeld ?_
              case refine_2 => (intro w hSw; (try dsimp only at hSw); go_simp; all_goals (with_reducible rfl))
              (try simp only [Act.put]); (try simp only [List.setIfInBounds_toArray]); (try simp only [List.set_cons_succ]); (try simp only [List.set_cons_zero])
              refine wpAnyF_take (i := 11) (v := ?_) opAt11 (by kernel_rfl) (by kernel_rfl) (by kernel_rfl) (by kernel_rfl) (by decide) (fun _ _ _ h => h) (Or.inl ⟨by rfl, ?_⟩) hHeld ?_
              case refine_2 => (intro w hSw; (try dsimp only at hSw); go_simp; all_goals (with_reducible rfl))
              (try simp only [Act.put]); (try simp only [List.setIfInBounds_toArray]); (try simp only [List.set_cons_succ]); (try simp only [List.set_cons_zero])
              refine wpAnyF_take (i := 12) (v := ?_) opAt12 (by kernel_rfl) (by kernel_rfl) (by kernel_rfl) (by kernel_rfl) (by decide) (fun _ _ _ h => h) (Or.inl ⟨by rfl, ?_⟩) hHeld ?_
              case refine_2 => (intro w hSw; (try dsimp only at hSw); go_simp; all_goals (with_reducible rfl))
              (try simp only [Act.put]); (try simp only [List.setIfInBounds_toArray]); (try simp only [List.set_cons_succ]); (try simp only [List.set_cons_zero])
              refine wpAnyF_take (i := 13) (v := ?_) opAt13 (by kernel_rfl) (by kernel_rfl) (by kernel_rfl) (by kernel_rfl) (by decide) (fun _ _ _ h => h) (Or.inl ⟨by rfl, ?_⟩) hHeld ?_
              case refine_2 => (intro w hSw; (try dsimp only at hSw); go_simp; all_goals (with_reducible rfl))
              (try simp only [Act.put]); (try simp only [List.setIfInBounds_toArray]); (try simp only [List.set_cons_succ]); (try simp only [List.set_cons_zero])
              refine wpAnyF_take (i := 14) (v := ?_) opAt14 (by kernel_rfl) (by kernel_rfl) (by kernel_rfl) (by kernel_rfl) (by decide) (fun _ _ _ h => h) (Or.inl ⟨by rfl, ?_⟩) hHeld ?_
              case refine_2 => (intro w hSw; (try dsimp only at hSw); go_simp; all_goals (with_reducible rfl))
              (try simp only [Act.put]); (try simp only [List.setIfInBounds_toArray]); (try simp only [List.set_cons_succ]); (try simp only [List.set_cons_zero])
              refine wpAnyF_take (i := 15) (v := ?_) opAt15 (by kernel_rfl) (by kernel_rfl) (by kernel_rfl) (by kernel_rfl) (by decide) (fun _ _ _ h => h) (Or.inl ⟨by rfl, ?_⟩) hHeld ?_
              case refine_2 => (intro w hSw; (try dsimp only at hSw); go_simp; all_goals (with_reducible rfl))
              (try simp only [Act.put]); (try simp only [List.setIfInBounds_toArray]); (try simp only [List.set_cons_succ]); (try simp only [List.set_cons_zero])
              refine wpAnyF_take (i := 16) (v := ?_) opAt16 (by kernel_rfl) (by kernel_rfl) (by kernel_rfl) (by kernel_rfl) (by decide) (fun _ _ _ h => h) (Or.inl ⟨by rfl, ?_⟩) hHeld ?_
              case refine_2 => (intro w hSw; (try dsimp only at hSw); go_simp; all_goals (with_reducible rfl))
              (try simp only [Act.put]); (try simp only [List.setIfInBounds_toArray]); (try simp only [List.set_cons_succ]); (try simp only [List.set_cons_zero])
              refine wpAnyF_take (i := 17) (v := ?_) opAt17 (by kernel_rfl) (by kernel_rfl) (by kernel_rfl) (by kernel_rfl) (by decide) (fun _ _ _ h => h) (Or.inl ⟨by rfl, ?_⟩) hHeld ?_
              case refine_2 => (intro w hSw; (try dsimp only at hSw); go_simp; all_goals (with_reducible rfl))
              (try simp only [Act.put]); (try simp only [List.setIfInBounds_toArray]); (try simp only [List.set_cons_succ]); (try simp only [List.set_cons_zero])
              refine wpAnyF_take (i := 18) (v := ?_) opAt18 (by kernel_rfl) (by kernel_rfl) (by kernel_rfl) (by kernel_rfl) (by decide) (fun _ _ _ h => h) (Or.inl ⟨by rfl, ?_⟩) hHeld ?_
              case refine_2 => (intro w hSw; (try dsimp only at hSw); go_simp; all_goals (with_reducible rfl))
              (try simp only [Act.put]); (try simp only [List.setIfInBounds_toArray]); (try simp only [List.set_cons_succ]); (try simp only [List.set_cons_zero])
              refine next1 19 (by kernel_rfl) opAt19 fun K' hK => ?_
              refine step_store1 (by rfl) 4 _ _ (by rfl) hd j (.bool (pInt (pF R j) == -1)) (by rfl) (by rfl) ?_ (HOW.out.frozenAt _) sz4 rfl rfl ?_
              · rw [own_cell (World.ownsRow.drew HOW.out) (bools_at (by rw [HL.out]; exact hjn))]; rfl
              intro W2 hW2
              have HO2 := Lib.hid (show W2.ownsRow (wb + 1) 4 1 (.slice (some ⟨hd, 0, none⟩) i i) i (bools (Hs.set j (pInt (pF R j) == -1))) from by rw [hW2, ← bools_set]; exact own_put (World.ownsRow.drew HOW.out) j _)
              have KP := Lib.hid (show Kept (fun k => k = hd) W.drew W2 from by rw [hW2]; exact kept_put W.drew hd j _)
              have KJ2 := Lib.hid (((KJ.out.trans CP.out.kept (fun _ _ h => h) (fun _ _ f => f.elim) : Kept (fun k => k = hd) w2 W).drew).trans KP.out (fun _ _ h => h) (fun _ _ h => h) : Kept (fun k => k = hd) w2 W2)
              clear hW2
              refine hK _ _ ⟨fun h => absurd rfl h, ?_⟩
              clear hK K'
              (try simp only [Act.put]); (try simp only [List.setIfInBounds_toArray]); (try simp only [List.set_cons_succ]); (try simp only [List.set_cons_zero])
              refine wpAnyF_done (by kernel_rfl) ?_ _
              go_wp2
              go_roundg (i - (j + 1))
              case measure => have := G2.out; omega
              case rel => exact ⟨j + 1, Hs.set j (pInt (pF R j) == -1), by omega, by go_num, by simpa using HL.out, HO2.out, fun x hx => by
                by_cases c : x = j
                · subst c; rw [nth_set _ _ _ _ (by rw [HL.out]; exact hjn), if_pos rfl, lostF, HY.out]; simp [PZ.out]
                · rw [nth_set _ _ _ _ (by rw [HL.out]; exact hjn), if_neg c]; exact HLO.out x (by omega), KJ2.out⟩
          · have j0 : ¬ (j : Int) < (i : Int) := by omega
            obtain rfl : i = j := by have := G2.out; omega
            have c0 := KJ.out.cell c0' BL.out.1
            clear c0' j0
            go_wp2_with fail
            refine (cycles_any wr (wb + 1) wb i cap gp cp hd ao ap Hs (pF R) (lostF R) c0 (KJ.out.cell (own_cellN LD.out.wood (i := 1) rfl) BL.out.1) (KJ.out.cell (own_cellN LD.out.wood (i := 2) rfl) BL.out.1) HAP.out (fun x hx => KJ.out.cell (GPW.out x hx) BL.out.2.2.1) HO.out HL.out HLO.out (fun x y _ h => by have := pF_lt h; rw [HN.out] at this; exact this) (fun x h => lostF_none h) hnl BL.out.1 BL.out.2.2.1).mono ?_
            rintro e w5 ⟨rfl, H2, ho5, hl5, hh5, k5⟩
            obtain ⟨b0, hb0⟩ : ∃ b, w5.heap.size = b := ⟨_, rfl⟩
            have B0 := Lib.hid hb0; have HO5 := Lib.hid ho5; have HL5 := Lib.hid hl5; have HH5 := Lib.hid hh5
            have K25 := Lib.hid (KJ.out.trans k5 (fun _ _ h => h) (fun _ _ h => h) : Kept (fun k => k = hd) w2 w5)
            have c1 := K25.out.cell (own_cellN LD.out.wood (i := 1) rfl) BL.out.1
            have KA0 := Lib.hid (show KidsAt R (wb + 1) b0 kd i 0 (fun _ => .slice none 0 0) w5 from ⟨by
              have h1 := own_keptS LD.out.kids K25.out (fun b hb e => LD.out.ne (by cases hb; exact e.symm))
              rw [nils_map]
              exact h1, fun x _ => own_nil _ _ _ _, fun _ _ _ _ _ _ hb => (by cases hb), by
              have h1 := own_lt LD.out.kids rfl
              have h2 := K25.out.size
              simp only at h1; omega⟩)
            have OLDB := Lib.hid (show wb < b0 from by
              have h1 := own_lt LD.out.wood rfl
              have h2 := K25.out.size
              simp only at h1; omega)
            have HDE := Lib.hid (show ∀ x, x < i → nth H2 x = hdF R x from fun x hx => Bool.eq_iff_iff.2 (by rw [hh5 x hx, hdF_iff]))
            clear hb0 ho5 hl5 hh5 k5 c0
            go_wp2
            go_loopg [90] i (fun ghv s wr' => ∃ (j : Nat) (kv : Nat → Value), j + ghv = i ∧ s = .int .i64 j ∧ KidsAt R (wb + 1) b0 kd i j kv wr' ∧ Kept (fun k => k = kd) w5 wr')
            case atStart => exact ⟨0, fun _ => .slice none 0 0, by omega, by go_num, KA0.out, Kept.refl _ _⟩
            case round =>
              obtain ⟨j, kv, hg3, rfl, hka, hk3⟩ := hrel
              have G3 := Lib.hid hg3; have KA := Lib.hid hka; have KJ := Lib.hid hk3
              clear hg3 hka hk3
              by_cases hjn : j < i
              · have j0 : (j : Int) < (i : Int) := by omega
                have j1 : (0 : Int) ≤ (j : Int) := by omega
                have e2 : IntKind.i64.wrap ((j : Int) + 1) = ((j + 1 : Nat) : Int) := IntWalk.i64_in _ (by omega)
                obtain rfl := HAP.out (by omega)
                have cw2 := KJ.out.cell (K25.out.cell (own_cellN LD.out.wood (i := 2) rfl) BL.out.1) BL.out.2.1
                have ch := KJ.out.cell (own_cell HO5.out (bools_at (i := j) (by rw [HL5.out]; exact hjn))) LD.out.ne
                rw [HDE.out j hjn] at ch
                have cpj := KJ.out.cell (K25.out.cell (GPW.out j hjn) BL.out.2.2.1) BL.out.2.2.2
                cases hp : pF R j with
                | none =>
                  rw [hp] at cpj
                  simp only [pInt] at cpj
                  have HP := Lib.hid hp
                  clear hp
                  go_wp2
                  go_roundg (i - (j + 1))
                  case measure => have := G3.out; omega
                  case rel => exact ⟨j + 1, kv, by omega, by go_num, KA.out.skip (.inl HP.out), KJ.out⟩
                | some q =>
                  rw [hp] at cpj
                  simp only [pInt] at cpj
                  have hqn : q < i := by have := pF_lt hp; rw [HN.out] at this; exact this
                  have HP := Lib.hid hp
                  clear hp
                  have q0 : ((q : Int) != -1) = true := by simp
                  have q1 : (0 : Int) ≤ (q : Int) := by omega
                  have q2 : (q : Int) < (i : Int) := by omega
                  cases hh : hdF R j with
                  | true =>
                    rw [hh] at ch
                    have HH0 := Lib.hid hh
                    clear hh
                    go_wp2
                    go_roundg (i - (j + 1))
                    case measure => have := G3.out; omega
                    case rel => exact ⟨j + 1, kv, by omega, by go_num, KA.out.skip (.inr HH0.out), KJ.out⟩
                  | false =>
                    rw [hh] at ch
                    have HH0 := Lib.hid hh
                    clear hh
                    have SS := Lib.hid (show ∀ w', Kept (fun _ => False) wr w' → w'.cell? ⟨wb, 3, none⟩ = some (.slice (some ⟨kd, 0, none⟩) i i) ∧ w'.cell? ⟨kd, q, none⟩ = some (kv q) from fun w' k => ⟨k.cell (KJ.out.cell (K25.out.cell (own_cellN LD.out.wood (i := 3) rfl) BL.out.1) BL.out.2.1) (fun f => f), k.cell (own_cell KA.out.top (by simp [hqn])) (fun f => f)⟩)
                    have hkv : ∃ a' c', kv q = .slice a' (kidF R j q).length c' := by
                      rcases row_form (KA.out.each q hqn) with ⟨e1, e2⟩ | ⟨g', c', e1, _⟩
                      · exact ⟨none, 0, by rw [e1, e2]⟩
                      · exact ⟨_, _, e1⟩
                    go_wp2
                    refine wp_region_last 16 (fun w' => w'.cell? ⟨wb, 3, none⟩ = some (.slice (some ⟨kd, 0, none⟩) i i) ∧ w'.cell? ⟨kd, q, none⟩ = some (kv q)) (by kernel_rfl) ?_
                    have k0 := (Kept.refl (fun _ => False) wr).drew
                    have hHeld := SS.out _ k0
                    simp only [List.size_toArray, List.length_cons, List.length_nil, Nat.zero_add, Nat.reduceAdd]
                    refine wpAnyF_take (i := 0) (v := ?_) opAt0 (by kernel_rfl) (by kernel_rfl) (by kernel_rfl) (by kernel_rfl) (by decide) (fun _ _ _ h => h) (Or.inl ⟨by rfl, ?_⟩) hHeld ?_
                    case refine_2 => (intro w hSw; (try dsimp only at hSw); go_simp; all_goals (with_reducible rfl))
                    (try simp only [Act.put]); (try simp only [List.setIfInBounds_toArray]); (try simp only [List.set_cons_succ]); (try simp only [List.set_cons_zero])
                    refine wpAnyF_take (i := 1) (v := ?_) opAt1 (by kernel_rfl) (by kernel_rfl) (by kernel_rfl) (by kernel_rfl) (by decide) (fun _ _ _ h => h) (Or.inl ⟨by rfl, ?_⟩) hHeld ?_
                    case refine_2 => (intro w hSw; (try dsimp only at hSw); go_simp; all_goals (with_reducible rfl))
                    (try simp only [Act.put]); (try simp only [List.setIfInBounds_toArray]); (try simp only [List.set_cons_succ]); (try simp only [List.set_cons_zero])
                    refine wpAnyF_take (i := 2) (v := ?_) opAt2 (by kernel_rfl) (by kernel_rfl) (by kernel_rfl) (by kernel_rfl) (by decide) (fun _ _ _ h => h) (Or.inl ⟨by rfl, ?_⟩) hHeld ?_
                    case refine_2 => (intro w hSw; (try dsimp only at hSw); go_simp; all_goals (with_reducible rfl))
                    (try simp only [Act.put]); (try simp only [List.setIfInBounds_toArray]); (try simp only [List.set_cons_succ]); (try simp only [List.set_cons_zero])
                    refine wpAnyF_take (i := 3) (v := ?_) opAt3 (by kernel_rfl) (by kernel_rfl) (by kernel_rfl) (by kernel_rfl) (by decide) (fun _ _ _ h => h) (Or.inl ⟨by rfl, ?_⟩) hHeld ?_
                    case refine_2 => (intro w hSw; (try dsimp only at hSw); go_simp; all_goals (with_reducible rfl))
                    (try simp only [Act.put]); (try simp only [List.setIfInBounds_toArray]); (try simp only [List.set_cons_succ]); (try simp only [List.set_cons_zero])
                    refine wpAnyF_take (i := 4) (v := ?_) opAt4 (by kernel_rfl) (by kernel_rfl) (by kernel_rfl) (by kernel_rfl) (by decide) (fun _ _ _ h => h) (Or.inl ⟨by rfl, ?_⟩) hHeld ?_
                    case refine_2 => (intro w hSw; (try dsimp only at hSw); go_simp; all_goals (with_reducible rfl))
                    (try simp only [Act.put]); (try simp only [List.setIfInBounds_toArray]); (try simp only [List.set_cons_succ]); (try simp only [List.set_cons_zero])
                    refine wpAnyF_take (i := 5) (v := ?_) opAt5 (by kernel_rfl) (by kernel_rfl) (by kernel_rfl) (by kernel_rfl) (by decide) (fun _ _ _ h => h) (Or.inl ⟨by rfl, ?_⟩) hHeld ?_
                    case refine_2 => (intro w hSw; (try dsimp only at hSw); go_simp; all_goals (with_reducible rfl))
                    (try simp only [Act.put]); (try simp only [List.setIfInBounds_toArray]); (try simp only [List.set_cons_succ]); (try simp only [List.set_cons_zero])
                    refine wpAnyF_take (i := 6) (v := ?_) opAt6 (by kernel_rfl) (by kernel_rfl) (by kernel_rfl) (by kernel_rfl) (by decide) (fun _ _ _ h => h) (Or.inl ⟨by rfl, ?_⟩) hHeld ?_
                    case refine_2 => (intro w hSw; (try dsimp only at hSw); go_simp; all_goals (with_reducible rfl))
                    (try simp only [Act.put]); (try simp only [List.setIfInBounds_toArray]); (try simp only [List.set_cons_succ]); (try simp only [List.set_cons_zero])
                    refine wpAnyF_take (i := 7) (v := ?_) opAt7 (by kernel_rfl) (by kernel_rfl) (by kernel_rfl) (by kernel_rfl) (by decide) (fun _ _ _ h => h) (Or.inl ⟨by rfl, ?_⟩) hHeld ?_
                    case refine_2 => (intro w hSw; (try dsimp only at hSw); go_simp; all_goals (with_reducible rfl))
                    (try simp only [Act.put]); (try simp only [List.setIfInBounds_toArray]); (try simp only [List.set_cons_succ]); (try simp only [List.set_cons_zero])
                    refine wpAnyF_take (i := 8) (v := ?_) opAt8 (by kernel_rfl) (by kernel_rfl) (by kernel_rfl) (by kernel_rfl) (by decide) (fun _ _ _ h => h) (Or.inl ⟨by rfl, ?_⟩) hHeld ?_
                    case refine_2 => (intro w hSw; (try dsimp only at hSw); go_simp; all_goals (with_reducible rfl))
                    (try simp only [Act.put]); (try simp only [List.setIfInBounds_toArray]); (try simp only [List.set_cons_succ]); (try simp only [List.set_cons_zero])
                    refine wpAnyF_take (i := 9) (v := ?_) opAt9 (by kernel_rfl) (by kernel_rfl) (by kernel_rfl) (by kernel_rfl) (by decide) (fun _ _ _ h => h) (Or.inl ⟨by rfl, ?_⟩) hHeld ?_
                    case refine_2 => (intro w hSw; (try dsimp only at hSw); go_simp; all_goals (with_reducible rfl))
                    (try simp only [Act.put]); (try simp only [List.setIfInBounds_toArray]); (try simp only [List.set_cons_succ]); (try simp only [List.set_cons_zero])
                    refine wpAnyF_take (i := 10) (v := ?_) opAt10 (by kernel_rfl) (by kernel_rfl) (by kernel_rfl) (by kernel_rfl) (by decide) (fun _ _ _ h => h) (Or.inl ⟨by rfl, ?_⟩) hHeld ?_
                    case refine_2 => (intro w hSw; (try dsimp only at hSw); go_simp; all_goals (with_reducible rfl))
                    (try simp only [Act.put]); (try simp only [List.setIfInBounds_toArray]); (try simp only [List.set_cons_succ]); (try simp only [List.set_cons_zero])
                    refine wpAnyF_take (i := 11) (v := ?_) opAt11 (by kernel_rfl) (by kernel_rfl) (by kernel_rfl) (by kernel_rfl) (by decide) (fun _ _ _ h => h) (Or.inl ⟨by rfl, ?_⟩) hHeld ?_
                    case refine_2 => (intro w hSw; (try dsimp only at hSw); go_simp; all_goals (with_reducible rfl))
                    (try simp only [Act.put]); (try simp only [List.setIfInBounds_toArray]); (try simp only [List.set_cons_succ]); (try simp only [List.set_cons_zero])
                    refine wpAnyF_take (i := 12) (v := ?_) opAt12 (by kernel_rfl) (by kernel_rfl) (by kernel_rfl) (by kernel_rfl) (by decide) (fun _ _ _ h => h) (Or.inl ⟨by rfl, ?_⟩) hHeld ?_
                    case refine_2 => (intro w hSw; (try dsimp only at hSw); go_simp; all_goals (with_reducible rfl))
                    (try simp only [Act.put]); (try simp only [List.setIfInBounds_toArray]); (try simp only [List.set_cons_succ]); (try simp only [List.set_cons_zero])
                    refine next1 13 (by kernel_rfl) opAt13 fun K' hK => ?_
                    go_simp
                    have hHeld := SS.out (wr.drew.alloc (.cells #[.int .i64 (j : Int)] 3)) (k0.alloc _)
                    refine hK _ _ ⟨fun _ => hHeld, ?_⟩
                    clear hK K'
                    (try simp only [Act.put]); (try simp only [List.setIfInBounds_toArray]); (try simp only [List.set_cons_succ]); (try simp only [List.set_cons_zero])
                    refine next1 14 (by kernel_rfl) opAt14 fun K' hK => ?_
                    refine step_app (by rfl) _ _ 49 (by rfl) b0 3 i3 _ 1 8 Try.underlying49 hi3 z3 s3 b3 (by rfl) (by decide) (kv q) (kidF R j q).length _ (by rfl) ((World.ownsRow.drew (KA.out.each q hqn)).alloc _) ⟨_, 0, none⟩ 1 1 [.int .i64 ((j : Nat) : Int)] (by rfl) (by rfl) ?_ ?_ ?_ ?_ ?_ ?_
                    · exact World.news_of_block (heap_alloc_new _ _)
                    · intro u hu; simp at hu; subst hu; rfl
                    · have := kidF_len R j q; unfold maxLen; omega
                    · have := kidF_len R j q; omega
                    · have := B0.out; have := KJ.out.size; simp [World.drew]; omega
                    intro ao' cap' w6 hown hgr hat
                    have KV := Lib.hid (grown_kept hgr)
                    have KW6 := Lib.hid (((k0.alloc _).mono (fun _ _ f => f.elim) : Kept (fun k => (kv q).ownBlock = some k) wr _).trans KV.out (fun _ _ h => h) (fun _ _ h => h) : Kept (fun k => (kv q).ownBlock = some k) wr w6)
                    have OWN := Lib.hid hown
                    have HAT := Lib.hid (show (Value.slice ao' ((kidF R j q).length + 1) cap').ownBlock = (kv q).ownBlock ∨ ∃ b, (Value.slice ao' ((kidF R j q).length + 1) cap').ownBlock = some b ∧ wr.heap.size ≤ b from hat.imp id (fun e => ⟨_, e, by simp [World.drew]⟩))
                    clear hown hgr hat
                    have hHeld := (⟨KW6.out.cell (SS.out _ (Kept.refl _ wr)).1 (fun e => by have h1 := own_lt (KA.out.each q hqn) e; have h2 := OLDB.out; simp only at h1; omega), KW6.out.cell (SS.out _ (Kept.refl _ wr)).2 (fun e => by have h1 := own_lt (KA.out.each q hqn) e; have h2 := KA.out.old; simp only at h1; omega)⟩ : w6.cell? ⟨wb, 3, none⟩ = some (.slice (some ⟨kd, 0, none⟩) i i) ∧ w6.cell? ⟨kd, q, none⟩ = some (kv q))
                    refine hK _ _ ⟨fun _ => hHeld, ?_⟩
                    clear hK K'
                    (try simp only [Act.put]); (try simp only [List.setIfInBounds_toArray]); (try simp only [List.set_cons_succ]); (try simp only [List.set_cons_zero])
                    refine wpAnyF_take (i := 15) (v := ?_) opAt15 (by kernel_rfl) (by kernel_rfl) (by kernel_rfl) (by kernel_rfl) (by decide) (fun _ _ _ h => h) (Or.inl ⟨by rfl, ?_⟩) hHeld ?_
                    case refine_2 => (intro w hSw; (try dsimp only at hSw); go_simp; all_goals (with_reducible rfl))
                    (try simp only [Act.put]); (try simp only [List.setIfInBounds_toArray]); (try simp only [List.set_cons_succ]); (try simp only [List.set_cons_zero])
                    refine next1 16 (by kernel_rfl) opAt16 fun K' hK => ?_
                    refine step_store1 (by rfl) 49 _ _ (by rfl) kd q (.slice ao' ((kidF R j q).length + 1) cap') (by rfl) (by rfl) (by rw [hHeld.2]; rfl) ?_ sz49 rfl rfl ?_
                    · exact (own_keptS KA.out.top KW6.out (fun b hb e => by have h1 := own_lt (KA.out.each q hqn) e; have h2 := KA.out.old; cases hb; simp only at h1; omega)).frozenAt _
                    intro W2 hW2
                    have KA2 := Lib.hid (KA.out.push hqn HP.out HH0.out KW6.out OWN.out HAT.out hW2)
                    have KJ2 := Lib.hid ((KJ.out.trans KW6.out (fun _ _ h => h) (fun k h1 h2 => by have h3 := own_lt (KA.out.each q hqn) h2; have := B0.out; omega) : Kept (fun k => k = kd) w5 w6).trans (show Kept (fun k => k = kd) w6 W2 from by rw [hW2]; exact kept_put w6 kd q _) (fun _ _ h => h) (fun _ _ h => h) : Kept (fun k => k = kd) w5 W2)
                    clear hW2
                    refine hK _ _ ⟨fun h => absurd rfl h, ?_⟩
                    clear hK K'
                    (try simp only [Act.put]); (try simp only [List.setIfInBounds_toArray]); (try simp only [List.set_cons_succ]); (try simp only [List.set_cons_zero])
                    refine wpAnyF_done (by kernel_rfl) ?_ _
                    go_wp2
                    go_roundg (i - (j + 1))
                    case measure => have := G3.out; omega
                    case rel => exact ⟨j + 1, _, by omega, by go_num, KA2.out, KJ2.out⟩
              · have j0 : ¬ (j : Int) < (i : Int) := by omega
                obtain rfl : i = j := by have := G3.out; omega
                go_wp2
                go_ret
                have KALL := Lib.hid (((KK.out.trans LD.out.kept (fun _ _ h => h) (fun k h1 h2 => by have := HWB.out; omega) : Kept (fun _ => False) w1 w2).trans K25.out (fun _ _ h => h) (fun k h1 h2 => by have h3 := HWB.out; have h4 := own_lt LD.out.head rfl; simp only at h4; omega) : Kept (fun _ => False) w1 w5).trans KJ.out (fun _ _ h => h) (fun k h1 h2 => by have h3 := HWB.out; have h4 := own_lt LD.out.kids rfl; simp only at h4; omega) : Kept (fun _ => False) w1 wr)
                rw [HRR.out]
                have SZ := Lib.hid (show w.heap.size ≤ wb ∧ w.heap.size ≤ hd ∧ w.heap.size ≤ kd ∧ w.heap.size ≤ b0 from by
                  have h1 := LD.out.gh_new; have h2 := LD.out.gk_new; have h3 := KK.out.size; have h4 := K1.out.size; have h5 := HWB.out; have h6 := K25.out.size; have h7 := LD.out.kept.size; have h8 := B0.out
                  omega)
                refine ⟨wb, rfl, ⟨SZ.out.1, ⟨_, KJ.out.cell (K25.out.cell (own_cellN LD.out.wood (i := 0) rfl) BL.out.1) BL.out.2.1, ?_⟩, ⟨hd, SZ.out.2.1, ?_, fun x hx => ?_⟩, ⟨kd, SZ.out.2.2.1, ?_, fun x hx => ?_⟩⟩, keptFF K1.out KALL.out⟩
                · exact ⟨ao, cap, by rw [HN.out], RDB.out.imp id (fun ⟨g, o, e1, hb, hc⟩ => ⟨g, o, e1, hb, fun j u hu => KALL.out.cell (hc j u hu) (fun f => f)⟩)⟩
                · rw [HN.out]; exact KJ.out.cell (K25.out.cell (own_cellN LD.out.wood (i := 2) rfl) BL.out.1) BL.out.2.1
                · rw [HN.out] at hx
                  rw [← HDE.out x hx]
                  exact KJ.out.cell (own_cell HO5.out (bools_at (by rw [HL5.out]; exact hx))) LD.out.ne
                · rw [HN.out]; exact KJ.out.cell (K25.out.cell (own_cellN LD.out.wood (i := 3) rfl) BL.out.1) BL.out.2.1
                · rw [HN.out] at hx ⊢
                  refine ⟨kv x, own_cell KA.out.top (by simp [hx]), ?_⟩
                  rcases row_form (KA.out.each x hx) with ⟨e1, e2⟩ | ⟨g', c', e1, _, hb', _, hc⟩
                  · exact ⟨none, 0, by rw [e1, e2], .inl (List.eq_nil_of_length_eq_zero e2)⟩
                  · exact ⟨_, c', e1, .inr ⟨g', 0, rfl, by have := SZ.out.2.2.2; omega, fun j u hu => by rw [Nat.zero_add]; exact hc j u hu⟩⟩
end Go.Proofs.Ytjidldbolbjdpaa
