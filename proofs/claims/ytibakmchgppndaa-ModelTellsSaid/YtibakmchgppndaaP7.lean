/- TOf1, TFr, TTree, TNode, TTof, TRefA, SortB -/
import Derived.Test.YtibakmchgppndaaP6
/- trees.of. -/
namespace Go.Proofs.Ytibakmchgppndaa
open Go.RowKit

/-- The parents of the first m. -/
def parL (R : List Spn) (m : Nat) : List Int := (List.range m).map (fun x => pInt (pF R x))
theorem parL_snoc (R : List Spn) (m : Nat) : parL R (m + 1) = parL R m ++ [pInt (pF R m)] := by simp [parL, List.range_succ]
theorem parL_at {R : List Spn} {m x : Nat} (h : x < m) : (ints (parL R m))[x]? = some (.int .i64 (pInt (pF R x))) := by simp [parL, ints, h]
theorem own_nil (w : World) (base : Nat) (e : TypeId) (size : Nat) : w.ownsRow base e size (.slice none 0 0) 0 [] := ⟨by simp, .inl ⟨rfl, rfl⟩⟩
theorem own_cellN {w : World} {base e size g n cap : Nat} {xs : List Value} (h : w.ownsRow base e size (.slice (some ⟨g, 0, none⟩) n cap) n xs) {i : Nat} {u : Value} (hu : xs[i]? = some u) : w.cell? ⟨g, i, none⟩ = some u := by
 have := h.cells (g := g) rfl i u hu
 rwa [add_mid, Nat.zero_add] at this
theorem own_putN {w : World} {base e size g n cap : Nat} {xs : List Value} (h : w.ownsRow base e size (.slice (some ⟨g, 0, none⟩) n cap) n xs) (i : Nat) (u : Value) : (w.setCell ⟨g, i, none⟩ u).ownsRow base e size (.slice (some ⟨g, 0, none⟩) n cap) n (xs.set i u) := (h.stored i u).1
theorem copy_own (w : World) : (w.alloc (.cells zeroT.cells.toArray 37)).ownsRow w.heap.size 37 8 (.slice (some ⟨w.heap.size, 0, none⟩) 1 1) 1 (cellsS [zeroT]) := by
 have h := World.ownsRow_lit (e := 37) (size := 8) w zeroT.cells.toArray 1 (Nat.le_refl w.heap.size) (by unfold maxLen; omega) rfl
 simpa [cellsS] using h
/-- A span copied into a block of its own. -/
structure Copied (w W : World) (sb : Nat) (y : Spn) : Prop where
 kept : Kept (fun _ => False) w W
 new : w.heap.size = sb
 size : sb < W.heap.size
 at_ : ∀ j u, y.cells[j]? = some u → W.cell? ⟨sb, j, none⟩ = some u
theorem copied (w W : World) (y : Spn) (h : W = (w.alloc (.cells zeroT.cells.toArray 37)).setCells w.heap.size 0 y.cells) : ∃ sb, Copied w W sb y := by
 refine ⟨w.heap.size, ?_⟩
 subst h
 have h := own_set (copy_own w) y (i := 0) (by simp)
 rw [Nat.zero_mul] at h
 have hk : Kept (fun _ => False) w ((w.alloc (.cells zeroT.cells.toArray 37)).setCells w.heap.size 0 y.cells) :=
  Kept.setCells (S := fun _ => False) (g := w.heap.size) (fun h => by omega) y.cells 0 ((Kept.refl (fun _ => False) w).alloc _)
 refine ⟨hk, rfl, ?_, fun j u hu => ?_⟩
 ·rcases row_form h with ⟨e, _⟩ | ⟨g, c, e, _, _, hlt, _⟩
  ·cases e
  ·cases e; exact hlt
 ·exact own_cellN h (by simpa [cellsS] using hu)
theorem cut2 {P : Program} {id : Nat} {ops : Array Oper} {d : Bool} {Q : Exit → Act → World → Prop} {a : Act} {w : World} {A : Nat → Nat → Act} (POST : Nat → Nat → World → Prop)
  (h1 : (∀ x y w', POST x y w' → Q .normal (A x y) w') → (Code.region id ops d).wp P Q a w) (h2 : ∀ x y w', POST x y w' → Q .normal (A x y) w') : (Code.region id ops d).wp P Q a w := h1 h2
/-- The wood's two rows are made. -/
structure Laid (wr w : World) (wb hd kd n : Nat) (v vp : Value) : Prop where
 kept : Kept (fun k => k = wb) wr w
 gh_new : wr.heap.size ≤ hd
 gk_new : wr.heap.size ≤ kd
 ne : hd ≠ kd
 wood : w.ownsRow wb 114 4 (.slice (some ⟨wb, 0, none⟩) 1 1) 1 [v, vp, .slice (some ⟨hd, 0, none⟩) n n, .slice (some ⟨kd, 0, none⟩) n n]
 head : w.ownsRow (wb + 1) 4 1 (.slice (some ⟨hd, 0, none⟩) n n) n (List.replicate n (.bool false))
 kids : w.ownsRow (wb + 1) 55 1 (.slice (some ⟨kd, 0, none⟩) n n) n (List.replicate n (.slice none 0 0))
theorem wp_region_letter {P : Program} {id : Nat} {ops : Array Oper} {Q : Exit → Act → World → Prop} {a : Act} {w : World} (hm : P.follows .mixedOrders = true) (R : World → Prop) (h0 : R w.drew)
  (h : ∀ V, R V → wpAny P .any ops Q ops.size (Array.replicate ops.size false) a V) : (Code.region id ops true).wp P Q a w := wp_region_any hm (h _ h0)

set_option maxHeartbeats 8000000 in
set_option maxRecDepth 100000 in
theorem of_any (w : World) (v : Value) (L : List Spn) (h : ReadsS w v L) (hl : L.length ≤ 1000) :
  Calls Try.prog 55 #[v] w fun e w' => ∃ wb, e = .returned (.pointer (some ⟨wb, 0, none⟩)) ∧ Wood w.heap.size w' wb (cntF L) ∧ Kept (fun _ => False) w w' := by
 go_enter Try.func55, Try.ntmps55
 go_wp2_with fail
 refine (kept_any _ v L h hl).mono ?_
 rintro e w1 ⟨v', rfl, rv, k1⟩
 obtain ⟨ao, cap, rfl, rdb⟩ := rv
 have rd : cntF L = [] ∨ ∃ g o, ao = some ⟨g, o, none⟩ ∧ ∀ j u, (cellsS (cntF L))[j]? = some u → w1.cell? ⟨g, o + j, none⟩ = some u := rdb.imp id (fun ⟨g, o, e, _, c⟩ => ⟨g, o, e, c⟩)
 obtain ⟨R, hR⟩ : ∃ R, cntF L = R := ⟨_, rfl⟩
 rw [hR] at rd rdb ⊢
 have hrl : R.length ≤ 1000 := by rw [← hR]; have := cntF_len L; omega
 have hri : Rise R := by rw [← hR]; exact (cntF_cnt L).rise
 obtain ⟨n, hn⟩ : ∃ n, R.length = n := ⟨_, rfl⟩
 have hnl : n ≤ 1000 := by omega
 have HRR := Lib.hid hR; have HN := Lib.hid hn; have RD := Lib.hid rd; have RDB := Lib.hid rdb; have RI := Lib.hid hri; have K1 := Lib.hid k1
 rw [hn]
 clear h hl hR hrl hri hn rd rdb k1
 go_wp2
 have hsz : w1.heap.size < w1.heap.size + 1 := by omega
 obtain ⟨wb, hwb⟩ : ∃ g, w1.heap.size = g := ⟨_, rfl⟩
 have HO0 := World.ownsRow_lit (e := 114) (size := 4) w1 #[.slice ao n cap, .slice none 0 0, .slice none 0 0, .slice none 0 0] 1 (Nat.le_refl w1.heap.size) (by unfold maxLen; omega) (by rfl)
 rw [hwb] at HO0 ⊢
 obtain ⟨i3, hi3, z3, s3, b3⟩ := info_parts inf3t
 obtain ⟨i4, hi4, z4, s4, b4⟩ := info_parts inf4
 obtain ⟨i49, hi49, z49, s49, b49⟩ := info_parts inf49
 have HWB := Lib.hid hwb; have H0 := Lib.hid HO0
 clear hwb HO0
 go_loopg [20] n (fun ghv s wr => ∃ (i : Nat) (vp : Value), i + ghv = n ∧ s = .int .i64 i ∧ wr.ownsRow wb 114 4 (.slice (some ⟨wb, 0, none⟩) 1 1) 1 [.slice ao n cap, vp, .slice none 0 0, .slice none 0 0] ∧ wr.ownsRow (wb + 1) 3 1 vp i (ints (parL R i)) ∧ Kept (fun _ => False) w1 wr)
 case atStart => exact ⟨0, .slice none 0 0, by omega, by go_num, H0.out, own_nil _ _ _ _, (Kept.refl _ _).alloc _⟩
 case round =>
  obtain ⟨i, vp, hg1, rfl, hwo, hpo, hk⟩ := hrel
  have G1 := Lib.hid hg1; have WO := Lib.hid hwo; have PO := Lib.hid hpo; have KK := Lib.hid hk
  clear hg1 hwo hpo hk
  by_cases hin : i < n
  ·have i0 : (i : Int) < (n : Int) := by omega
   have i1 : (0 : Int) ≤ (i : Int) := by omega
   have e1 : IntKind.i64.wrap ((i : Int) + 1) = ((i + 1 : Nat) : Int) := IntWalk.i64_in _ (by omega)
   obtain ⟨g, o, rfl, hc⟩ : ∃ g o, ao = some ⟨g, o, none⟩ ∧ ∀ j u, (cellsS R)[j]? = some u → w1.cell? ⟨g, o + j, none⟩ = some u := by
    rcases RD.out with h | h
    ·have := HN.out; subst h; simp at this; omega
    ·exact h
   obtain ⟨y, hy⟩ : ∃ y, nth R i = y := ⟨_, rfl⟩
   have gy := nth_get (l := R) (k := i) (by have := HN.out; omega)
   rw [hy] at gy
   have ry := ReadsS.range (fun j u hu => KK.out.cell (hc j u hu) (fun f => f)) gy
   have HY := Lib.hid hy; have HC := Lib.hid hc
   clear hy gy hc
   go_wp2_with (first | (refine wpList_load_mid (by rfl) 37 _ (by rfl) g (o + i * 8) (by rfl) y.cells _ ry Try.underlying37 rfl info24 ?_) | (refine wpList_store_letter (by rfl) 37 _ _ (by rfl) wr.heap.size 0 y.cells.toArray (by rfl) (by rfl) (own_there (copy_own wr) (i := 0) (by simp)) info24 (cells_all y) ?_; intro W hW; obtain ⟨sb, cpd⟩ := copied wr W y hW; have CP := Lib.hid cpd; have hnew := cpd.new; rw [hnew] at *; clear cpd hW))
   have SS := Lib.hid (show ∀ w', Kept (fun _ => False) W w' → w'.cell? ⟨wb, 1, none⟩ = some vp ∧ w'.cell? ⟨sb, 2, none⟩ = some (.int .i64 y.pa) from fun w' k => ⟨k.cell (CP.out.kept.cell (own_cellN WO.out (i := 1) rfl) (fun f => f)) (fun f => f), k.cell (CP.out.at_ 2 _ rfl) (fun f => f)⟩)
   have W0 := Lib.hid (CP.out.kept.cell (own_cellN WO.out (i := 0) rfl) (fun f => f))
   have RS := Lib.hid (show ReadsS W (.slice (some ⟨g, o, none⟩) n cap) R from ⟨some ⟨g, o, none⟩, cap, by rw [HN.out], .inr ⟨g, o, rfl, fun j u hu => CP.out.kept.cell (KK.out.cell (HC.out j u hu) (fun f => f)) (fun f => f)⟩⟩)
   refine wp_region_last 13 (fun w' => w'.cell? ⟨wb, 1, none⟩ = some vp ∧ w'.cell? ⟨sb, 2, none⟩ = some (.int .i64 y.pa)) (by kernel_rfl) ?_
   have k0 := (Kept.refl (fun _ => False) W).drew
   have hHeld := SS.out _ k0
   simp only [List.size_toArray, List.length_cons, List.length_nil, Nat.zero_add, Nat.reduceAdd]
   refine tF (v := ?_) 0 opAt0 ?_ hHeld ?_
   case refine_2 => (intro w hSw; (try dsimp only at hSw); go_simp; all_goals (with_reducible rfl))
   (try simp only [Act.put]); try simp only [z2, List.set]
   refine tF (v := ?_) 1 opAt1 ?_ hHeld ?_
   case refine_2 => (intro w hSw; (try dsimp only at hSw); go_simp; all_goals (with_reducible rfl))
   (try simp only [Act.put]); try simp only [z2, List.set]
   refine tF (v := ?_) 2 opAt2 ?_ hHeld ?_
   case refine_2 => (intro w hSw; (try dsimp only at hSw); go_simp; all_goals (with_reducible rfl))
   (try simp only [Act.put]); try simp only [z2, List.set]
   refine tF (v := ?_) 3 opAt3 ?_ hHeld ?_
   case refine_2 => (intro w hSw; (try dsimp only at hSw); go_simp; all_goals (with_reducible rfl))
   (try simp only [Act.put]); try simp only [z2, List.set]
   refine tF (v := ?_) 4 opAt4 ?_ hHeld ?_
   case refine_2 => (intro w hSw; (try dsimp only at hSw); go_simp; all_goals (with_reducible rfl))
   (try simp only [Act.put]); try simp only [z2, List.set]
   refine tF (v := ?_) 5 opAt5 ?_ hHeld ?_
   case refine_2 => (intro w hSw; (try dsimp only at hSw); go_simp; all_goals (with_reducible rfl))
   (try simp only [Act.put]); try simp only [z2, List.set]
   refine tF (v := ?_) 6 opAt6 ?_ hHeld ?_
   case refine_2 => (intro w hSw; (try dsimp only at hSw); go_simp; all_goals (with_reducible rfl))
   (try simp only [Act.put]); try simp only [z2, List.set]
   refine tF (v := ?_) 7 opAt7 ?_ hHeld ?_
   case refine_2 => (intro w hSw; (try dsimp only at hSw); go_simp; all_goals (with_reducible rfl))
   (try simp only [Act.put]); try simp only [z2, List.set]
   refine next1 8 (by kernel_rfl) opAt8 fun K' hK => ?_
   go_simp
   go_at_call 74
   refine (place_any _ wb _ R y.pa (k0.cell W0.out (fun f => f)) (ReadsS.keptF RS.out k0) (by rw [HN.out]; exact hnl) RI.out).mono ?_
   rintro e w5 ⟨rfl, k5⟩
   have K5 := Lib.hid (keptFF k0 k5)
   clear k5
   dsimp only
   have hHeld := SS.out _ K5.out
   refine hK _ _ ⟨fun _ => hHeld, ?_⟩
   clear hK K'
   (try simp only [Act.put]); try simp only [z2, List.set]
   refine next1 9 (by kernel_rfl) opAt9 fun K' hK => ?_
   go_simp
   have hHeld := SS.out _ (K5.out.alloc (.cells #[.int .i64 (pInt (plF R y.pa))] 3))
   refine hK _ _ ⟨fun _ => hHeld, ?_⟩
   clear hK K'
   (try simp only [Act.put]); try simp only [z2, List.set]
   refine next1 10 (by kernel_rfl) opAt10 fun K' hK => ?_
   refine step_app (by rfl) _ _ 55 (by rfl) (wb + 1) 3 i3 _ 1 8 Try.underlying55 hi3 z3 s3 b3 (by rfl) (by decide) vp i _ (by rfl) ((own_keptS PO.out (CP.out.kept.trans K5.out (fun _ _ h => h) (fun _ _ h => h) : Kept (fun _ => False) wr w5) (fun _ _ f => f)).alloc _) ⟨_, 0, none⟩ 1 1 [.int .i64 (pInt (plF R y.pa))] (by rfl) (by rfl) ?_ ?_ ?_ ?_ ?_ ?_
   ·exact World.news_of_block (heap_alloc_new _ _)
   ·intro u hu; simp at hu; subst hu; rfl
   ·unfold maxLen; omega
   ·omega
   ·have := own_lt WO.out rfl; have := CP.out.kept.size; have := K5.out.size; simp; omega
   intro ao' cap' w6 hown hgr hat
   have KV := Lib.hid (grown_kept hgr)
   have KW6 := Lib.hid ((((CP.out.kept.trans K5.out (fun _ _ h => h) (fun _ _ h => h) : Kept (fun _ => False) wr w5).alloc _).mono (fun _ _ f => f.elim) : Kept (fun k => vp.ownBlock = some k) wr _).trans KV.out (fun _ _ h => h) (fun _ _ h => h) : Kept (fun k => vp.ownBlock = some k) wr w6)
   have OWN := Lib.hid hown
   clear hown hgr hat
   have hHeld := (⟨KW6.out.cell (own_cellN WO.out (i := 1) rfl) (fun e => by have h1 := own_lt PO.out e; simp only at h1; omega), KV.out.cell (((K5.out.alloc _).cell (CP.out.at_ 2 _ rfl) (fun f => f))) (fun e => by have h1 := own_lt PO.out e; have h2 := CP.out.new; simp only at h1; omega)⟩ : w6.cell? ⟨wb, 1, none⟩ = some vp ∧ w6.cell? ⟨sb, 2, none⟩ = some (.int .i64 y.pa))
   refine hK _ _ ⟨fun _ => hHeld, ?_⟩
   clear hK K'
   (try simp only [Act.put]); try simp only [z2, List.set]
   refine next1 11 (by kernel_rfl) opAt11 fun K' hK => ?_
   go_simp
   have hHeld := hHeld
   refine hK _ _ ⟨fun _ => hHeld, ?_⟩
   clear hK K'
   (try simp only [Act.put]); try simp only [z2, List.set]
   refine tF (v := ?_) 12 opAt12 ?_ hHeld ?_
   case refine_2 => (intro w hSw; (try dsimp only at hSw); go_simp; all_goals (with_reducible rfl))
   (try simp only [Act.put]); try simp only [z2, List.set]
   refine next1 13 (by kernel_rfl) opAt13 fun K' hK => ?_
   have WO6 := Lib.hid (own_keptS WO.out KW6.out (fun b hb e => by have h1 := own_lt PO.out e; cases hb; simp only at h1; omega))
   refine step_store1 (by rfl) 55 _ _ (by rfl) wb 1 (.slice ao' (i + 1) cap') (by rfl) (by rfl) (by rw [hHeld.1]; rfl) (WO6.out.frozenAt _) sz49 rfl rfl ?_
   intro W2 hW2
   have WO2 := Lib.hid (show W2.ownsRow wb 114 4 (.slice (some ⟨wb, 0, none⟩) 1 1) 1 [.slice (some ⟨g, o, none⟩) n cap, .slice ao' (i + 1) cap', .slice none 0 0, .slice none 0 0] from by rw [hW2]; exact own_putN WO6.out 1 _)
   have KP := Lib.hid (show Kept (fun k => k = wb) w6 W2 from by rw [hW2]; exact kept_put w6 wb 1 _)
   have PO2 := Lib.hid (own_keptS OWN.out KP.out (fun b hb e => by have h1 := own_lt OWN.out hb; omega))
   have KK2 := Lib.hid ((KK.out.trans KW6.out (fun _ _ h => h) (fun k h1 h2 => by have h3 := own_lt PO.out h2; have := HWB.out; omega) : Kept (fun _ => False) w1 w6).trans KP.out (fun _ _ h => h) (fun k h1 h2 => by have := HWB.out; omega) : Kept (fun _ => False) w1 W2)
   clear hW2
   refine hK _ _ ⟨fun h => absurd rfl h, ?_⟩
   clear hK K'
   (try simp only [Act.put]); try simp only [z2, List.set]
   refine wpAnyF_done (by kernel_rfl) ?_ _
   go_wp2
   go_roundg (n - (i + 1))
   case measure => have := G1.out; omega
   case rel => exact ⟨i + 1, _, by omega, by go_num, WO2.out, by rw [parL_snoc, ints, List.map_append]; simp only [List.map_cons, List.map_nil, pF, HY.out]; exact PO2.out, KK2.out⟩
  ·have i0 : ¬ (i : Int) < (n : Int) := by omega
   obtain rfl : i = n := by have := G1.out; omega
   obtain ⟨ap, cp, gp, rfl, hap, hgpl⟩ : ∃ ap cp gp, vp = .slice ap i cp ∧ (0 < i → ap = some ⟨gp, 0, none⟩ ∧ gp ≠ wb ∧ ∀ x, x < i → wr.cell? ⟨gp, x, none⟩ = some (.int .i64 (pInt (pF R x)))) ∧ gp < wr.heap.size := by
    rcases row_form PO.out with ⟨e1, e2⟩ | ⟨gp, cp, e1, _, h3, h4, h5⟩
    ·exact ⟨none, 0, 0, by rw [e1, e2], fun h => by omega, by have h1 := own_lt WO.out rfl; omega⟩
    ·exact ⟨_, cp, gp, e1, fun _ => ⟨rfl, by omega, fun x hx => h5 x _ (parL_at hx)⟩, h4⟩
   have c0 := own_cellN WO.out (i := 0) rfl
   have HAP := Lib.hid (fun h => (hap h).1)
   have HPC := Lib.hid (fun h => (hap h).2)
   have GPL := Lib.hid hgpl
   clear hap hgpl
   go_wp2
   refine cut2 (A := ?A) (fun hd kd w2 => Laid wr w2 wb hd kd i (.slice ao i cap) (.slice ap i cp)) ?h1 ?h2
   case h1 =>
    intro HC
    refine wp_region_letter (by kernel_rfl) (fun V => Kept (fun k => k = wb) wr V ∧ V.ownsRow wb 114 4 (.slice (some ⟨wb, 0, none⟩) 1 1) 1 [.slice ao i cap, .slice ap i cp, .slice none 0 0, .slice none 0 0]) ⟨(Kept.refl (fun k => k = wb) wr).drew, World.ownsRow.drew WO.out⟩ ?_
    rintro V0 ⟨k0, wo0⟩
    simp only [List.size_toArray, List.length_cons, List.length_nil, Nat.zero_add, Nat.reduceAdd]
    have K0 := Lib.hid k0
    have WO0 := Lib.hid wo0
    clear k0 wo0
    refine tA (v := ?_) 0 opAt0 ?_ ?_
    case refine_2 => (intro w; go_simp; all_goals (with_reducible rfl))
    (try simp only [Act.put]); try simp only [z2, List.set]
    refine tA (v := ?_) 1 opAt1 ?_ ?_
    case refine_2 => (intro w; go_simp; all_goals (with_reducible rfl))
    (try simp only [Act.put]); try simp only [z2, List.set]
    refine tA (v := ?_) 2 opAt2 ?_ ?_
    case refine_2 => (intro w; go_simp; all_goals (with_reducible rfl))
    (try simp only [Act.put]); try simp only [z2, List.set]
    refine tA (v := ?_) 4 opAt4 ?_ ?_
    case refine_2 => (intro w; go_simp; all_goals (with_reducible rfl))
    (try simp only [Act.put]); try simp only [z2, List.set]
    refine wpAny_ready (rs := [3, 5]) (by kernel_rfl) (by simp) ?_
    refine AllReady.cons opAt3 (fun K hK => ?_) ?_
    ·refine step_make (by rfl) 111 _ _ (by rfl) (wb + 1) 4 i4 (.bool false) 1 Try.underlying111 hi4 z4 s4 b4 rfl i (by rfl) (by rfl) hnl (by decide) (by have h1 := own_lt WO0.out rfl; simp only at h1; omega) ?_
     intro V1 ho hk hsz
     obtain ⟨hd, hg⟩ : ∃ g, V0.heap.size = g := ⟨_, rfl⟩
     rw [hg] at ho ⊢
     have GHD := Lib.hid (show wr.heap.size ≤ hd from by rw [← hg]; exact K0.out.size)
     have HD := Lib.hid ho
     have K1 := Lib.hid (K0.out.trans hk (fun _ _ h => h) (fun _ _ f => f.elim) : Kept (fun k => k = wb) wr V1)
     have WO1 := Lib.hid (own_keptS WO0.out hk (fun _ _ f => f))
     clear ho hk hsz hg
     refine hK _ _ ?_
     clear hK K
     (try simp only [Act.put]); try simp only [z2, List.set]
     refine tA (v := ?_) 6 opAt6 ?_ ?_
     case refine_2 => (intro w; go_simp; all_goals (with_reducible rfl))
     (try simp only [Act.put]); try simp only [z2, List.set]
     refine tA (v := ?_) 7 opAt7 ?_ ?_
     case refine_2 => (intro w; go_simp; all_goals (with_reducible rfl))
     (try simp only [Act.put]); try simp only [z2, List.set]
     refine wpAny_ready (rs := [5, 8]) (by kernel_rfl) (by simp) ?_
     refine AllReady.cons opAt5 (fun K hK => ?_) ?_
     ·refine step_make (by rfl) 112 _ _ (by rfl) (wb + 1) 55 i49 (.slice none 0 0) 24 Try.underlying112 hi49 z49 s49 b49 rfl i (by rfl) (by rfl) hnl (by decide) (by have h1 := own_lt WO1.out rfl; simp only at h1; omega) ?_
      intro V2 ho hk hsz
      obtain ⟨kd, hg⟩ : ∃ g, V1.heap.size = g := ⟨_, rfl⟩
      rw [hg] at ho ⊢
      have GKD := Lib.hid (show wr.heap.size ≤ kd from by rw [← hg]; exact K1.out.size)
      have NE := Lib.hid (show hd ≠ kd from by have h1 := own_lt HD.out rfl; simp only at h1; omega)
      have HD := Lib.hid (own_keptS HD.out hk (fun _ _ f => f))
      have KD := Lib.hid ho
      have K2 := Lib.hid (K1.out.trans hk (fun _ _ h => h) (fun _ _ f => f.elim) : Kept (fun k => k = wb) wr V2)
      have WO2 := Lib.hid (own_keptS WO1.out hk (fun _ _ f => f))
      clear ho hk hsz hg
      refine hK _ _ ?_
      clear hK K
      (try simp only [Act.put]); try simp only [z2, List.set]
      refine wpAny_ready (rs := [8]) (by kernel_rfl) (by simp) ?_
      refine AllReady.cons opAt8 (fun K hK => ?_) AllReady.nil
      refine step_store1 (by rfl) 111 _ _ (by rfl) wb 2 (.slice (some ⟨hd, 0, none⟩) i i) (by rfl) (by rfl) (by rw [own_cellN WO2.out (i := 2) rfl]; rfl) (WO2.out.frozenAt _) sz50 rfl rfl ?_
      intro V3 hV
      have WO3 := Lib.hid (show V3.ownsRow wb 114 4 (.slice (some ⟨wb, 0, none⟩) 1 1) 1 [.slice ao i cap, .slice ap i cp, .slice (some ⟨hd, 0, none⟩) i i, .slice none 0 0] from by rw [hV]; exact own_putN WO2.out 2 _)
      have KP := Lib.hid (show Kept (fun k => k = wb) V2 V3 from by rw [hV]; exact kept_put V2 wb 2 _)
      have K3 := Lib.hid (K2.out.trans KP.out (fun _ _ h => h) (fun _ _ h => h) : Kept (fun k => k = wb) wr V3)
      have HD := Lib.hid (own_keptS HD.out KP.out (fun b hb e => by have h1 := own_lt HD.out hb; omega))
      have KD := Lib.hid (own_keptS KD.out KP.out (fun b hb e => by have h1 := own_lt KD.out hb; omega))
      clear hV KP
      refine hK _ _ ?_
      clear hK K
      (try simp only [Act.put]); try simp only [z2, List.set]
      refine tA (v := ?_) 9 opAt9 ?_ ?_
      case refine_2 => (intro w; go_simp; all_goals (with_reducible rfl))
      (try simp only [Act.put]); try simp only [z2, List.set]
      refine tA (v := ?_) 10 opAt10 ?_ ?_
      case refine_2 => (intro w; go_simp; all_goals (with_reducible rfl))
      (try simp only [Act.put]); try simp only [z2, List.set]
      refine wpAny_ready (rs := [11]) (by kernel_rfl) (by simp) ?_
      refine AllReady.cons opAt11 (fun K hK => ?_) AllReady.nil
      refine step_store1 (by rfl) 112 _ _ (by rfl) wb 3 (.slice (some ⟨kd, 0, none⟩) i i) (by rfl) (by rfl) (by rw [own_cellN WO3.out (i := 3) rfl]; rfl) (WO3.out.frozenAt _) sz51 rfl rfl ?_
      intro V4 hV
      have WO4 := Lib.hid (show V4.ownsRow wb 114 4 (.slice (some ⟨wb, 0, none⟩) 1 1) 1 [.slice ao i cap, .slice ap i cp, .slice (some ⟨hd, 0, none⟩) i i, .slice (some ⟨kd, 0, none⟩) i i] from by rw [hV]; exact own_putN WO3.out 3 _)
      have KP := Lib.hid (show Kept (fun k => k = wb) V3 V4 from by rw [hV]; exact kept_put V3 wb 3 _)
      have K4 := Lib.hid (K3.out.trans KP.out (fun _ _ h => h) (fun _ _ h => h) : Kept (fun k => k = wb) wr V4)
      have HD := Lib.hid (own_keptS HD.out KP.out (fun b hb e => by have h1 := own_lt HD.out hb; omega))
      have KD := Lib.hid (own_keptS KD.out KP.out (fun b hb e => by have h1 := own_lt KD.out hb; omega))
      clear hV KP
      refine hK _ _ ?_
      clear hK K
      (try simp only [Act.put]); try simp only [z2, List.set]
      refine wpAny_done (by kernel_rfl) ?_ _
      exact HC hd kd V4 ⟨K4.out, GHD.out, GKD.out, NE.out, WO4.out, HD.out, KD.out⟩
     refine AllReady.cons opAt8 (fun K hK => ?_) AllReady.nil
     refine step_store1 (by rfl) 111 _ _ (by rfl) wb 2 (.slice (some ⟨hd, 0, none⟩) i i) (by rfl) (by rfl) (by rw [own_cellN WO1.out (i := 2) rfl]; rfl) (WO1.out.frozenAt _) sz50 rfl rfl ?_
     intro V2 hV
     have WO2 := Lib.hid (show V2.ownsRow wb 114 4 (.slice (some ⟨wb, 0, none⟩) 1 1) 1 [.slice ao i cap, .slice ap i cp, .slice (some ⟨hd, 0, none⟩) i i, .slice none 0 0] from by rw [hV]; exact own_putN WO1.out 2 _)
     have KP := Lib.hid (show Kept (fun k => k = wb) V1 V2 from by rw [hV]; exact kept_put V1 wb 2 _)
     have K2 := Lib.hid (K1.out.trans KP.out (fun _ _ h => h) (fun _ _ h => h) : Kept (fun k => k = wb) wr V2)
     have HD := Lib.hid (own_keptS HD.out KP.out (fun b hb e => by have h1 := own_lt HD.out hb; omega))
     clear hV KP
     refine hK _ _ ?_
     clear hK K
     (try simp only [Act.put]); try simp only [z2, List.set]
     refine wpAny_ready (rs := [5]) (by kernel_rfl) (by simp) ?_
     refine AllReady.cons opAt5 (fun K hK => ?_) AllReady.nil
     refine step_make (by rfl) 112 _ _ (by rfl) (wb + 1) 55 i49 (.slice none 0 0) 24 Try.underlying112 hi49 z49 s49 b49 rfl i (by rfl) (by rfl) hnl (by decide) (by have h1 := own_lt WO2.out rfl; simp only at h1; omega) ?_
     intro V3 ho hk hsz
     obtain ⟨kd, hg⟩ : ∃ g, V2.heap.size = g := ⟨_, rfl⟩
     rw [hg] at ho ⊢
     have GKD := Lib.hid (show wr.heap.size ≤ kd from by rw [← hg]; exact K2.out.size)
     have NE := Lib.hid (show hd ≠ kd from by have h1 := own_lt HD.out rfl; simp only at h1; omega)
     have HD := Lib.hid (own_keptS HD.out hk (fun _ _ f => f))
     have KD := Lib.hid ho
     have K3 := Lib.hid (K2.out.trans hk (fun _ _ h => h) (fun _ _ f => f.elim) : Kept (fun k => k = wb) wr V3)
     have WO3 := Lib.hid (own_keptS WO2.out hk (fun _ _ f => f))
     clear ho hk hsz hg
     refine hK _ _ ?_
     clear hK K
     (try simp only [Act.put]); try simp only [z2, List.set]
     refine tA (v := ?_) 9 opAt9 ?_ ?_
     case refine_2 => (intro w; go_simp; all_goals (with_reducible rfl))
     (try simp only [Act.put]); try simp only [z2, List.set]
     refine tA (v := ?_) 10 opAt10 ?_ ?_
     case refine_2 => (intro w; go_simp; all_goals (with_reducible rfl))
     (try simp only [Act.put]); try simp only [z2, List.set]
     refine wpAny_ready (rs := [11]) (by kernel_rfl) (by simp) ?_
     refine AllReady.cons opAt11 (fun K hK => ?_) AllReady.nil
     refine step_store1 (by rfl) 112 _ _ (by rfl) wb 3 (.slice (some ⟨kd, 0, none⟩) i i) (by rfl) (by rfl) (by rw [own_cellN WO3.out (i := 3) rfl]; rfl) (WO3.out.frozenAt _) sz51 rfl rfl ?_
     intro V4 hV
     have WO4 := Lib.hid (show V4.ownsRow wb 114 4 (.slice (some ⟨wb, 0, none⟩) 1 1) 1 [.slice ao i cap, .slice ap i cp, .slice (some ⟨hd, 0, none⟩) i i, .slice (some ⟨kd, 0, none⟩) i i] from by rw [hV]; exact own_putN WO3.out 3 _)
     have KP := Lib.hid (show Kept (fun k => k = wb) V3 V4 from by rw [hV]; exact kept_put V3 wb 3 _)
     have K4 := Lib.hid (K3.out.trans KP.out (fun _ _ h => h) (fun _ _ h => h) : Kept (fun k => k = wb) wr V4)
     have HD := Lib.hid (own_keptS HD.out KP.out (fun b hb e => by have h1 := own_lt HD.out hb; omega))
     have KD := Lib.hid (own_keptS KD.out KP.out (fun b hb e => by have h1 := own_lt KD.out hb; omega))
     clear hV KP
     refine hK _ _ ?_
     clear hK K
     (try simp only [Act.put]); try simp only [z2, List.set]
     refine wpAny_done (by kernel_rfl) ?_ _
     exact HC hd kd V4 ⟨K4.out, GHD.out, GKD.out, NE.out, WO4.out, HD.out, KD.out⟩
    refine AllReady.cons opAt5 (fun K hK => ?_) AllReady.nil
    refine step_make (by rfl) 112 _ _ (by rfl) (wb + 1) 55 i49 (.slice none 0 0) 24 Try.underlying112 hi49 z49 s49 b49 rfl i (by rfl) (by rfl) hnl (by decide) (by have h1 := own_lt WO0.out rfl; simp only at h1; omega) ?_
    intro V1 ho hk hsz
    obtain ⟨kd, hg⟩ : ∃ g, V0.heap.size = g := ⟨_, rfl⟩
    rw [hg] at ho ⊢
    have GKD := Lib.hid (show wr.heap.size ≤ kd from by rw [← hg]; exact K0.out.size)
    have KD := Lib.hid ho
    have K1 := Lib.hid (K0.out.trans hk (fun _ _ h => h) (fun _ _ f => f.elim) : Kept (fun k => k = wb) wr V1)
    have WO1 := Lib.hid (own_keptS WO0.out hk (fun _ _ f => f))
    clear ho hk hsz hg
    refine hK _ _ ?_
    clear hK K
    (try simp only [Act.put]); try simp only [z2, List.set]
    refine wpAny_ready (rs := [3]) (by kernel_rfl) (by simp) ?_
    refine AllReady.cons opAt3 (fun K hK => ?_) AllReady.nil
    refine step_make (by rfl) 111 _ _ (by rfl) (wb + 1) 4 i4 (.bool false) 1 Try.underlying111 hi4 z4 s4 b4 rfl i (by rfl) (by rfl) hnl (by decide) (by have h1 := own_lt WO1.out rfl; simp only at h1; omega) ?_
    intro V2 ho hk hsz
    obtain ⟨hd, hg⟩ : ∃ g, V1.heap.size = g := ⟨_, rfl⟩
    rw [hg] at ho ⊢
    have GHD := Lib.hid (show wr.heap.size ≤ hd from by rw [← hg]; exact K1.out.size)
    have NE := Lib.hid (show hd ≠ kd from by have h1 := own_lt KD.out rfl; simp only at h1; omega)
    have KD := Lib.hid (own_keptS KD.out hk (fun _ _ f => f))
    have HD := Lib.hid ho
    have K2 := Lib.hid (K1.out.trans hk (fun _ _ h => h) (fun _ _ f => f.elim) : Kept (fun k => k = wb) wr V2)
    have WO2 := Lib.hid (own_keptS WO1.out hk (fun _ _ f => f))
    clear ho hk hsz hg
    refine hK _ _ ?_
    clear hK K
    (try simp only [Act.put]); try simp only [z2, List.set]
    refine tA (v := ?_) 6 opAt6 ?_ ?_
    case refine_2 => (intro w; go_simp; all_goals (with_reducible rfl))
    (try simp only [Act.put]); try simp only [z2, List.set]
    refine tA (v := ?_) 7 opAt7 ?_ ?_
    case refine_2 => (intro w; go_simp; all_goals (with_reducible rfl))
    (try simp only [Act.put]); try simp only [z2, List.set]
    refine wpAny_ready (rs := [8]) (by kernel_rfl) (by simp) ?_
    refine AllReady.cons opAt8 (fun K hK => ?_) AllReady.nil
    refine step_store1 (by rfl) 111 _ _ (by rfl) wb 2 (.slice (some ⟨hd, 0, none⟩) i i) (by rfl) (by rfl) (by rw [own_cellN WO2.out (i := 2) rfl]; rfl) (WO2.out.frozenAt _) sz50 rfl rfl ?_
    intro V3 hV
    have WO3 := Lib.hid (show V3.ownsRow wb 114 4 (.slice (some ⟨wb, 0, none⟩) 1 1) 1 [.slice ao i cap, .slice ap i cp, .slice (some ⟨hd, 0, none⟩) i i, .slice none 0 0] from by rw [hV]; exact own_putN WO2.out 2 _)
    have KP := Lib.hid (show Kept (fun k => k = wb) V2 V3 from by rw [hV]; exact kept_put V2 wb 2 _)
    have K3 := Lib.hid (K2.out.trans KP.out (fun _ _ h => h) (fun _ _ h => h) : Kept (fun k => k = wb) wr V3)
    have HD := Lib.hid (own_keptS HD.out KP.out (fun b hb e => by have h1 := own_lt HD.out hb; omega))
    have KD := Lib.hid (own_keptS KD.out KP.out (fun b hb e => by have h1 := own_lt KD.out hb; omega))
    clear hV KP
    refine hK _ _ ?_
    clear hK K
    (try simp only [Act.put]); try simp only [z2, List.set]
    refine tA (v := ?_) 9 opAt9 ?_ ?_
    case refine_2 => (intro w; go_simp; all_goals (with_reducible rfl))
    (try simp only [Act.put]); try simp only [z2, List.set]
    refine tA (v := ?_) 10 opAt10 ?_ ?_
    case refine_2 => (intro w; go_simp; all_goals (with_reducible rfl))
    (try simp only [Act.put]); try simp only [z2, List.set]
    refine wpAny_ready (rs := [11]) (by kernel_rfl) (by simp) ?_
    refine AllReady.cons opAt11 (fun K hK => ?_) AllReady.nil
    refine step_store1 (by rfl) 112 _ _ (by rfl) wb 3 (.slice (some ⟨kd, 0, none⟩) i i) (by rfl) (by rfl) (by rw [own_cellN WO3.out (i := 3) rfl]; rfl) (WO3.out.frozenAt _) sz51 rfl rfl ?_
    intro V4 hV
    have WO4 := Lib.hid (show V4.ownsRow wb 114 4 (.slice (some ⟨wb, 0, none⟩) 1 1) 1 [.slice ao i cap, .slice ap i cp, .slice (some ⟨hd, 0, none⟩) i i, .slice (some ⟨kd, 0, none⟩) i i] from by rw [hV]; exact own_putN WO3.out 3 _)
    have KP := Lib.hid (show Kept (fun k => k = wb) V3 V4 from by rw [hV]; exact kept_put V3 wb 3 _)
    have K4 := Lib.hid (K3.out.trans KP.out (fun _ _ h => h) (fun _ _ h => h) : Kept (fun k => k = wb) wr V4)
    have HD := Lib.hid (own_keptS HD.out KP.out (fun b hb e => by have h1 := own_lt HD.out hb; omega))
    have KD := Lib.hid (own_keptS KD.out KP.out (fun b hb e => by have h1 := own_lt KD.out hb; omega))
    clear hV KP
    refine hK _ _ ?_
    clear hK K
    (try simp only [Act.put]); try simp only [z2, List.set]
    refine wpAny_done (by kernel_rfl) ?_ _
    exact HC hd kd V4 ⟨K4.out, GHD.out, GKD.out, NE.out, WO4.out, HD.out, KD.out⟩
   case h2 =>
    intro hd kd w2 hlaid
    have LD := Lib.hid hlaid
    have c0' := own_cellN hlaid.wood (i := 0) rfl
    clear hlaid c0
    have BL := Lib.hid (show wb ≠ hd ∧ wb ≠ kd ∧ gp ≠ hd ∧ gp ≠ kd from by
     have h1 := own_lt LD.out.head rfl
     have h2 := own_lt LD.out.kids rfl
     have h3 := LD.out.gh_new
     have h4 := LD.out.gk_new
     have h5 := GPL.out
     simp only at h1 h2
     omega)
    have GPW := Lib.hid (show ∀ x, x < i → w2.cell? ⟨gp, x, none⟩ = some (.int .i64 (pInt (pF R x))) from fun x hx => LD.out.kept.cell ((HPC.out (by omega)).2 x hx) (HPC.out (by omega)).1)
    have HZ := Lib.hid (show List.replicate i (Value.bool false) = bools (List.replicate i false) from by simp [bools])
    go_wp2
    go_loopg [58] i (fun ghv s wr' => ∃ (j : Nat) (Hs : List Bool), j + ghv = i ∧ s = .int .i64 j ∧ Hs.length = i ∧ wr'.ownsRow (wb + 1) 4 1 (.slice (some ⟨hd, 0, none⟩) i i) i (bools Hs) ∧ (∀ x, x < j → nth Hs x = lostF R x) ∧ Kept (fun k => k = hd) w2 wr')
    case atStart => exact ⟨0, List.replicate i false, by omega, by go_num, by simp, by rw [← HZ.out]; exact LD.out.head, fun x h => by omega, Kept.refl _ _⟩
    case round =>
     obtain ⟨j, Hs, hg2, rfl, hhl, hho, hlo, hk2⟩ := hrel
     have G2 := Lib.hid hg2; have HL := Lib.hid hhl; have HO := Lib.hid hho; have HLO := Lib.hid hlo; have KJ := Lib.hid hk2
     clear hg2 hhl hho hlo hk2
     by_cases hjn : j < i
     ·have j0 : (j : Int) < (i : Int) := by omega
      have j1 : (0 : Int) ≤ (j : Int) := by omega
      have e2 : IntKind.i64.wrap ((j : Int) + 1) = ((j + 1 : Nat) : Int) := IntWalk.i64_in _ (by omega)
      obtain ⟨g, o, rfl, hc⟩ : ∃ g o, ao = some ⟨g, o, none⟩ ∧ ∀ j u, (cellsS R)[j]? = some u → w1.cell? ⟨g, o + j, none⟩ = some u := by
       rcases RD.out with h | h
       ·have := HN.out; subst h; simp at this; omega
       ·exact h
      obtain rfl := HAP.out (by omega)
      obtain ⟨y, hy⟩ : ∃ y, nth R j = y := ⟨_, rfl⟩
      have gy := nth_get (l := R) (k := j) (by have := HN.out; omega)
      rw [hy] at gy
      have HY := Lib.hid hy; have HC := Lib.hid hc
      have OLD := Lib.hid (show ∀ a u, w1.cell? a = some u → wr.cell? a = some u from fun a u h => KJ.out.cell (LD.out.kept.cell (KK.out.cell h (fun f => f)) (fun e => by have h1 := World.block_lt_of_cell? _ _ h; have h2 := HWB.out; omega)) (fun e => by have h1 := World.block_lt_of_cell? _ _ h; have h2 := HWB.out; have h3 := own_lt LD.out.head rfl; simp only at h3; omega))
      have ry := ReadsS.range (fun j u hu => OLD.out _ _ (hc j u hu)) gy
      clear hy gy hc
      go_wp2_with (first | (refine wpList_load_mid (by rfl) 37 _ (by rfl) g (o + j * 8) (by rfl) y.cells _ ry Try.underlying37 rfl info24 ?_) | (refine wpList_store_letter (by rfl) 37 _ _ (by rfl) wr.heap.size 0 y.cells.toArray (by rfl) (by rfl) (own_there (copy_own wr) (i := 0) (by simp)) info24 (cells_all y) ?_; intro W hW; obtain ⟨sb, cpd⟩ := copied wr W y hW; have CP := Lib.hid cpd; have hnew := cpd.new; rw [hnew] at *; clear cpd hW hnew))
      have HOW := Lib.hid (own_keptS HO.out CP.out.kept (fun _ _ f => f))
      have SS := Lib.hid (show ∀ w', Kept (fun _ => False) W w' → w'.cell? ⟨wb, 2, none⟩ = some (.slice (some ⟨hd, 0, none⟩) i i) ∧ w'.cell? ⟨sb, 2, none⟩ = some (.int .i64 y.pa) ∧ w'.cell? ⟨wb, 1, none⟩ = some (.slice (some ⟨gp, 0, none⟩) i cp) ∧ w'.cell? ⟨gp, j, none⟩ = some (.int .i64 (pInt (pF R j))) from fun w' k => ⟨k.cell (CP.out.kept.cell (KJ.out.cell (own_cellN LD.out.wood (i := 2) rfl) BL.out.1) (fun f => f)) (fun f => f), k.cell (CP.out.at_ 2 _ rfl) (fun f => f), k.cell (CP.out.kept.cell (KJ.out.cell (own_cellN LD.out.wood (i := 1) rfl) BL.out.1) (fun f => f)) (fun f => f), k.cell (CP.out.kept.cell (KJ.out.cell (GPW.out j hjn) BL.out.2.2.1) (fun f => f)) (fun f => f)⟩)
      by_cases pz : y.pa = 0
      ·have pz1 : (y.pa != 0) = false := by simp [pz]
       have PZ := Lib.hid pz
       clear pz
       refine wp_region_last 19 (fun w' => w'.cell? ⟨wb, 2, none⟩ = some (.slice (some ⟨hd, 0, none⟩) i i) ∧ w'.cell? ⟨sb, 2, none⟩ = some (.int .i64 y.pa) ∧ w'.cell? ⟨wb, 1, none⟩ = some (.slice (some ⟨gp, 0, none⟩) i cp) ∧ w'.cell? ⟨gp, j, none⟩ = some (.int .i64 (pInt (pF R j)))) (by kernel_rfl) ?_
       have k0 := (Kept.refl (fun _ => False) W).drew
       have hHeld := SS.out _ k0
       simp only [List.size_toArray, List.length_cons, List.length_nil, Nat.zero_add, Nat.reduceAdd]
       refine tF (v := ?_) 0 opAt0 ?_ hHeld ?_
       case refine_2 => (intro w hSw; (try dsimp only at hSw); go_simp; all_goals (with_reducible rfl))
       (try simp only [Act.put]); try simp only [z2, List.set]
       refine tF (v := ?_) 1 opAt1 ?_ hHeld ?_
       case refine_2 => (intro w hSw; (try dsimp only at hSw); go_simp; all_goals (with_reducible rfl))
       (try simp only [Act.put]); try simp only [z2, List.set]
       refine tF (v := ?_) 2 opAt2 ?_ hHeld ?_
       case refine_2 => (intro w hSw; (try dsimp only at hSw); go_simp; all_goals (with_reducible rfl))
       (try simp only [Act.put]); try simp only [z2, List.set]
       refine tF (v := ?_) 3 opAt3 ?_ hHeld ?_
       case refine_2 => (intro w hSw; (try dsimp only at hSw); go_simp; all_goals (with_reducible rfl))
       (try simp only [Act.put]); try simp only [z2, List.set]
       refine tF (v := ?_) 4 opAt4 ?_ hHeld ?_
       case refine_2 => (intro w hSw; (try dsimp only at hSw); go_simp; all_goals (with_reducible rfl))
       (try simp only [Act.put]); try simp only [z2, List.set]
       refine tF (v := ?_) 5 opAt5 ?_ hHeld ?_
       case refine_2 => (intro w hSw; (try dsimp only at hSw); go_simp; all_goals (with_reducible rfl))
       (try simp only [Act.put]); try simp only [z2, List.set]
       refine tF (v := ?_) 6 opAt6 ?_ hHeld ?_
       case refine_2 => (intro w hSw; (try dsimp only at hSw); go_simp; all_goals (with_reducible rfl))
       (try simp only [Act.put]); try simp only [z2, List.set]
       refine tF (v := ?_) 7 opAt7 ?_ hHeld ?_
       case refine_2 => (intro w hSw; (try dsimp only at hSw); go_simp; all_goals (with_reducible rfl))
       (try simp only [Act.put]); try simp only [z2, List.set]
       refine tF (v := ?_) 8 opAt8 ?_ hHeld ?_
       case refine_2 => (intro w hSw; (try dsimp only at hSw); go_simp; all_goals (with_reducible rfl))
       (try simp only [Act.put]); try simp only [z2, List.set]
       refine wpAnyF_take (i := 9) opAt9 (by kernel_rfl) (by kernel_rfl) (by kernel_rfl) (by kernel_rfl) (by decide) (fun _ _ _ h => h) (Or.inr ⟨by rfl, rfl⟩) hHeld ?_
       (try simp only [Act.put]); try simp only [z2, List.set]
       refine wpAnyF_take (i := 10) opAt10 (by kernel_rfl) (by kernel_rfl) (by kernel_rfl) (by kernel_rfl) (by decide) (fun _ _ _ h => h) (Or.inr ⟨by rfl, rfl⟩) hHeld ?_
       (try simp only [Act.put]); try simp only [z2, List.set]
       refine wpAnyF_take (i := 11) opAt11 (by kernel_rfl) (by kernel_rfl) (by kernel_rfl) (by kernel_rfl) (by decide) (fun _ _ _ h => h) (Or.inr ⟨by rfl, rfl⟩) hHeld ?_
       (try simp only [Act.put]); try simp only [z2, List.set]
       refine wpAnyF_take (i := 12) opAt12 (by kernel_rfl) (by kernel_rfl) (by kernel_rfl) (by kernel_rfl) (by decide) (fun _ _ _ h => h) (Or.inr ⟨by rfl, rfl⟩) hHeld ?_
       (try simp only [Act.put]); try simp only [z2, List.set]
       refine wpAnyF_take (i := 13) opAt13 (by kernel_rfl) (by kernel_rfl) (by kernel_rfl) (by kernel_rfl) (by decide) (fun _ _ _ h => h) (Or.inr ⟨by rfl, rfl⟩) hHeld ?_
       (try simp only [Act.put]); try simp only [z2, List.set]
       refine wpAnyF_take (i := 14) opAt14 (by kernel_rfl) (by kernel_rfl) (by kernel_rfl) (by kernel_rfl) (by decide) (fun _ _ _ h => h) (Or.inr ⟨by rfl, rfl⟩) hHeld ?_
       (try simp only [Act.put]); try simp only [z2, List.set]
       refine wpAnyF_take (i := 15) opAt15 (by kernel_rfl) (by kernel_rfl) (by kernel_rfl) (by kernel_rfl) (by decide) (fun _ _ _ h => h) (Or.inr ⟨by rfl, rfl⟩) hHeld ?_
       (try simp only [Act.put]); try simp only [z2, List.set]
       refine wpAnyF_take (i := 16) opAt16 (by kernel_rfl) (by kernel_rfl) (by kernel_rfl) (by kernel_rfl) (by decide) (fun _ _ _ h => h) (Or.inr ⟨by rfl, rfl⟩) hHeld ?_
       (try simp only [Act.put]); try simp only [z2, List.set]
       refine tF (v := ?_) 17 opAt17 ?_ hHeld ?_
       case refine_2 => (intro w hSw; (try dsimp only at hSw); go_simp; all_goals (with_reducible rfl))
       (try simp only [Act.put]); try simp only [z2, List.set]
       refine tF (v := ?_) 18 opAt18 ?_ hHeld ?_
       case refine_2 => (intro w hSw; (try dsimp only at hSw); go_simp; all_goals (with_reducible rfl))
       (try simp only [Act.put]); try simp only [z2, List.set]
       refine next1 19 (by kernel_rfl) opAt19 fun K' hK => ?_
       refine step_store1 (by rfl) 4 _ _ (by rfl) hd j (.bool false) (by rfl) (by rfl) ?_ (HOW.out.frozenAt _) sz4 rfl rfl ?_
       ·rw [own_cell (World.ownsRow.drew HOW.out) (bools_at (by rw [HL.out]; exact hjn))]; rfl
       intro W2 hW2
       have HO2 := Lib.hid (show W2.ownsRow (wb + 1) 4 1 (.slice (some ⟨hd, 0, none⟩) i i) i (bools (Hs.set j false)) from by rw [hW2, ← bools_set]; exact own_put (World.ownsRow.drew HOW.out) j _)
       have KP := Lib.hid (show Kept (fun k => k = hd) W.drew W2 from by rw [hW2]; exact kept_put W.drew hd j _)
       have KJ2 := Lib.hid (((KJ.out.trans CP.out.kept (fun _ _ h => h) (fun _ _ f => f.elim) : Kept (fun k => k = hd) w2 W).drew).trans KP.out (fun _ _ h => h) (fun _ _ h => h) : Kept (fun k => k = hd) w2 W2)
       clear hW2
       refine hK _ _ ⟨fun h => absurd rfl h, ?_⟩
       clear hK K'
       (try simp only [Act.put]); try simp only [z2, List.set]
       refine wpAnyF_done (by kernel_rfl) ?_ _
       go_wp2
       go_roundg (i - (j + 1))
       case measure => have := G2.out; omega
       case rel => exact ⟨j + 1, Hs.set j false, by omega, by go_num, by simpa using HL.out, HO2.out, fun x hx => by
        by_cases c : x = j
        ·subst c; rw [nth_set _ _ _ _ (by rw [HL.out]; exact hjn), if_pos rfl, lostF, HY.out]; simp [PZ.out]
        ·rw [nth_set _ _ _ _ (by rw [HL.out]; exact hjn), if_neg c]; exact HLO.out x (by omega), KJ2.out⟩
      ·have pz1 : (y.pa != 0) = true := by simp [pz]
       have PZ := Lib.hid pz
       clear pz
       refine wp_region_last 19 (fun w' => w'.cell? ⟨wb, 2, none⟩ = some (.slice (some ⟨hd, 0, none⟩) i i) ∧ w'.cell? ⟨sb, 2, none⟩ = some (.int .i64 y.pa) ∧ w'.cell? ⟨wb, 1, none⟩ = some (.slice (some ⟨gp, 0, none⟩) i cp) ∧ w'.cell? ⟨gp, j, none⟩ = some (.int .i64 (pInt (pF R j)))) (by kernel_rfl) ?_
       have k0 := (Kept.refl (fun _ => False) W).drew
       have hHeld := SS.out _ k0
       simp only [List.size_toArray, List.length_cons, List.length_nil, Nat.zero_add, Nat.reduceAdd]
       refine tF (v := ?_) 0 opAt0 ?_ hHeld ?_
       case refine_2 => (intro w hSw; (try dsimp only at hSw); go_simp; all_goals (with_reducible rfl))
       (try simp only [Act.put]); try simp only [z2, List.set]
       refine tF (v := ?_) 1 opAt1 ?_ hHeld ?_
       case refine_2 => (intro w hSw; (try dsimp only at hSw); go_simp; all_goals (with_reducible rfl))
       (try simp only [Act.put]); try simp only [z2, List.set]
       refine tF (v := ?_) 2 opAt2 ?_ hHeld ?_
       case refine_2 => (intro w hSw; (try dsimp only at hSw); go_simp; all_goals (with_reducible rfl))
       (try simp only [Act.put]); try simp only [z2, List.set]
       refine tF (v := ?_) 3 opAt3 ?_ hHeld ?_
       case refine_2 => (intro w hSw; (try dsimp only at hSw); go_simp; all_goals (with_reducible rfl))
       (try simp only [Act.put]); try simp only [z2, List.set]
       refine tF (v := ?_) 4 opAt4 ?_ hHeld ?_
       case refine_2 => (intro w hSw; (try dsimp only at hSw); go_simp; all_goals (with_reducible rfl))
       (try simp only [Act.put]); try simp only [z2, List.set]
       refine tF (v := ?_) 5 opAt5 ?_ hHeld ?_
       case refine_2 => (intro w hSw; (try dsimp only at hSw); go_simp; all_goals (with_reducible rfl))
       (try simp only [Act.put]); try simp only [z2, List.set]
       refine tF (v := ?_) 6 opAt6 ?_ hHeld ?_
       case refine_2 => (intro w hSw; (try dsimp only at hSw); go_simp; all_goals (with_reducible rfl))
       (try simp only [Act.put]); try simp only [z2, List.set]
       refine tF (v := ?_) 7 opAt7 ?_ hHeld ?_
       case refine_2 => (intro w hSw; (try dsimp only at hSw); go_simp; all_goals (with_reducible rfl))
       (try simp only [Act.put]); try simp only [z2, List.set]
       refine tF (v := ?_) 8 opAt8 ?_ hHeld ?_
       case refine_2 => (intro w hSw; (try dsimp only at hSw); go_simp; all_goals (with_reducible rfl))
       (try simp only [Act.put]); try simp only [z2, List.set]
       refine tF (v := ?_) 9 opAt9 ?_ hHeld ?_
       case refine_2 => (intro w hSw; (try dsimp only at hSw); go_simp; all_goals (with_reducible rfl))
       (try simp only [Act.put]); try simp only [z2, List.set]
       refine tF (v := ?_) 10 opAt10 ?_ hHeld ?_
       case refine_2 => (intro w hSw; (try dsimp only at hSw); go_simp; all_goals (with_reducible rfl))
       (try simp only [Act.put]); try simp only [z2, List.set]
       refine tF (v := ?_) 11 opAt11 ?_ hHeld ?_
       case refine_2 => (intro w hSw; (try dsimp only at hSw); go_simp; all_goals (with_reducible rfl))
       (try simp only [Act.put]); try simp only [z2, List.set]
       refine tF (v := ?_) 12 opAt12 ?_ hHeld ?_
       case refine_2 => (intro w hSw; (try dsimp only at hSw); go_simp; all_goals (with_reducible rfl))
       (try simp only [Act.put]); try simp only [z2, List.set]
       refine tF (v := ?_) 13 opAt13 ?_ hHeld ?_
       case refine_2 => (intro w hSw; (try dsimp only at hSw); go_simp; all_goals (with_reducible rfl))
       (try simp only [Act.put]); try simp only [z2, List.set]
       refine tF (v := ?_) 14 opAt14 ?_ hHeld ?_
       case refine_2 => (intro w hSw; (try dsimp only at hSw); go_simp; all_goals (with_reducible rfl))
       (try simp only [Act.put]); try simp only [z2, List.set]
       refine tF (v := ?_) 15 opAt15 ?_ hHeld ?_
       case refine_2 => (intro w hSw; (try dsimp only at hSw); go_simp; all_goals (with_reducible rfl))
       (try simp only [Act.put]); try simp only [z2, List.set]
       refine tF (v := ?_) 16 opAt16 ?_ hHeld ?_
       case refine_2 => (intro w hSw; (try dsimp only at hSw); go_simp; all_goals (with_reducible rfl))
       (try simp only [Act.put]); try simp only [z2, List.set]
       refine tF (v := ?_) 17 opAt17 ?_ hHeld ?_
       case refine_2 => (intro w hSw; (try dsimp only at hSw); go_simp; all_goals (with_reducible rfl))
       (try simp only [Act.put]); try simp only [z2, List.set]
       refine tF (v := ?_) 18 opAt18 ?_ hHeld ?_
       case refine_2 => (intro w hSw; (try dsimp only at hSw); go_simp; all_goals (with_reducible rfl))
       (try simp only [Act.put]); try simp only [z2, List.set]
       refine next1 19 (by kernel_rfl) opAt19 fun K' hK => ?_
       refine step_store1 (by rfl) 4 _ _ (by rfl) hd j (.bool (pInt (pF R j) == -1)) (by rfl) (by rfl) ?_ (HOW.out.frozenAt _) sz4 rfl rfl ?_
       ·rw [own_cell (World.ownsRow.drew HOW.out) (bools_at (by rw [HL.out]; exact hjn))]; rfl
       intro W2 hW2
       have HO2 := Lib.hid (show W2.ownsRow (wb + 1) 4 1 (.slice (some ⟨hd, 0, none⟩) i i) i (bools (Hs.set j (pInt (pF R j) == -1))) from by rw [hW2, ← bools_set]; exact own_put (World.ownsRow.drew HOW.out) j _)
       have KP := Lib.hid (show Kept (fun k => k = hd) W.drew W2 from by rw [hW2]; exact kept_put W.drew hd j _)
       have KJ2 := Lib.hid (((KJ.out.trans CP.out.kept (fun _ _ h => h) (fun _ _ f => f.elim) : Kept (fun k => k = hd) w2 W).drew).trans KP.out (fun _ _ h => h) (fun _ _ h => h) : Kept (fun k => k = hd) w2 W2)
       clear hW2
       refine hK _ _ ⟨fun h => absurd rfl h, ?_⟩
       clear hK K'
       (try simp only [Act.put]); try simp only [z2, List.set]
       refine wpAnyF_done (by kernel_rfl) ?_ _
       go_wp2
       go_roundg (i - (j + 1))
       case measure => have := G2.out; omega
       case rel => exact ⟨j + 1, Hs.set j (pInt (pF R j) == -1), by omega, by go_num, by simpa using HL.out, HO2.out, fun x hx => by
        by_cases c : x = j
        ·subst c; rw [nth_set _ _ _ _ (by rw [HL.out]; exact hjn), if_pos rfl, lostF, HY.out]; simp [PZ.out]
        ·rw [nth_set _ _ _ _ (by rw [HL.out]; exact hjn), if_neg c]; exact HLO.out x (by omega), KJ2.out⟩
     ·have j0 : ¬ (j : Int) < (i : Int) := by omega
      obtain rfl : i = j := by have := G2.out; omega
      have c0 := KJ.out.cell c0' BL.out.1
      clear c0' j0
      go_wp2_with fail
      refine (cycles_any wr (wb + 1) wb i cap gp cp hd ao ap Hs (pF R) (lostF R) c0 (KJ.out.cell (own_cellN LD.out.wood (i := 1) rfl) BL.out.1) (KJ.out.cell (own_cellN LD.out.wood (i := 2) rfl) BL.out.1) HAP.out (fun x hx => KJ.out.cell (GPW.out x hx) BL.out.2.2.1) HO.out HL.out HLO.out (fun x y _ h => by have := pF_lt h; rw [HN.out] at this; exact this) (fun x h => lostF_none h) hnl BL.out.1 BL.out.2.2.1).mono ?_
      rintro e w5 ⟨rfl, H2, ho5, hl5, hh5, k5⟩
      obtain ⟨b0, hb0⟩ : ∃ b, w5.heap.size = b := ⟨_, rfl⟩
      have B0 := Lib.hid hb0; have HO5 := Lib.hid ho5; have HL5 := Lib.hid hl5; have HH5 := Lib.hid hh5
      have K25 := Lib.hid (KJ.out.trans k5 (fun _ _ h => h) (fun _ _ h => h) : Kept (fun k => k = hd) w2 w5)
      have c1 := K25.out.cell (own_cellN LD.out.wood (i := 1) rfl) BL.out.1
      have KA0 := Lib.hid (show KidsAt R (wb + 1) b0 kd i 0 (fun _ => .slice none 0 0) w5 from ⟨by
       have h1 := own_keptS LD.out.kids K25.out (fun b hb e => LD.out.ne (by cases hb; exact e.symm))
       rw [nils_map]
       exact h1, fun x _ => own_nil _ _ _ _, fun _ _ _ _ _ _ hb => (by cases hb), by
       have h1 := own_lt LD.out.kids rfl
       have h2 := K25.out.size
       simp only at h1; omega⟩)
      have OLDB := Lib.hid (show wb < b0 from by
       have h1 := own_lt LD.out.wood rfl
       have h2 := K25.out.size
       simp only at h1; omega)
      have HDE := Lib.hid (show ∀ x, x < i → nth H2 x = hdF R x from fun x hx => Bool.eq_iff_iff.2 (by rw [hh5 x hx, hdF_iff]))
      clear hb0 ho5 hl5 hh5 k5 c0
      go_wp2
      go_loopg [90] i (fun ghv s wr' => ∃ (j : Nat) (kv : Nat → Value), j + ghv = i ∧ s = .int .i64 j ∧ KidsAt R (wb + 1) b0 kd i j kv wr' ∧ Kept (fun k => k = kd) w5 wr')
      case atStart => exact ⟨0, fun _ => .slice none 0 0, by omega, by go_num, KA0.out, Kept.refl _ _⟩
      case round =>
       obtain ⟨j, kv, hg3, rfl, hka, hk3⟩ := hrel
       have G3 := Lib.hid hg3; have KA := Lib.hid hka; have KJ := Lib.hid hk3
       clear hg3 hka hk3
       by_cases hjn : j < i
       ·have j0 : (j : Int) < (i : Int) := by omega
        have j1 : (0 : Int) ≤ (j : Int) := by omega
        have e2 : IntKind.i64.wrap ((j : Int) + 1) = ((j + 1 : Nat) : Int) := IntWalk.i64_in _ (by omega)
        obtain rfl := HAP.out (by omega)
        have cw2 := KJ.out.cell (K25.out.cell (own_cellN LD.out.wood (i := 2) rfl) BL.out.1) BL.out.2.1
        have ch := KJ.out.cell (own_cell HO5.out (bools_at (i := j) (by rw [HL5.out]; exact hjn))) LD.out.ne
        rw [HDE.out j hjn] at ch
        have cpj := KJ.out.cell (K25.out.cell (GPW.out j hjn) BL.out.2.2.1) BL.out.2.2.2
        cases hp : pF R j with
        | none =>
         rw [hp] at cpj
         simp only [pInt] at cpj
         have HP := Lib.hid hp
         clear hp
         go_wp2
         go_roundg (i - (j + 1))
         case measure => have := G3.out; omega
         case rel => exact ⟨j + 1, kv, by omega, by go_num, KA.out.skip (.inl HP.out), KJ.out⟩
        | some q =>
         rw [hp] at cpj
         simp only [pInt] at cpj
         have hqn : q < i := by have := pF_lt hp; rw [HN.out] at this; exact this
         have HP := Lib.hid hp
         clear hp
         have q0 : ((q : Int) != -1) = true := by simp
         have q1 : (0 : Int) ≤ (q : Int) := by omega
         have q2 : (q : Int) < (i : Int) := by omega
         cases hh : hdF R j with
         | true =>
          rw [hh] at ch
          have HH0 := Lib.hid hh
          clear hh
          go_wp2
          go_roundg (i - (j + 1))
          case measure => have := G3.out; omega
          case rel => exact ⟨j + 1, kv, by omega, by go_num, KA.out.skip (.inr HH0.out), KJ.out⟩
         | false =>
          rw [hh] at ch
          have HH0 := Lib.hid hh
          clear hh
          have SS := Lib.hid (show ∀ w', Kept (fun _ => False) wr w' → w'.cell? ⟨wb, 3, none⟩ = some (.slice (some ⟨kd, 0, none⟩) i i) ∧ w'.cell? ⟨kd, q, none⟩ = some (kv q) from fun w' k => ⟨k.cell (KJ.out.cell (K25.out.cell (own_cellN LD.out.wood (i := 3) rfl) BL.out.1) BL.out.2.1) (fun f => f), k.cell (own_cell KA.out.top (by simp [hqn])) (fun f => f)⟩)
          have hkv : ∃ a' c', kv q = .slice a' (kidF R j q).length c' := by
           rcases row_form (KA.out.each q hqn) with ⟨e1, e2⟩ | ⟨g', c', e1, _⟩
           ·exact ⟨none, 0, by rw [e1, e2]⟩
           ·exact ⟨_, _, e1⟩
          go_wp2
          refine wp_region_last 16 (fun w' => w'.cell? ⟨wb, 3, none⟩ = some (.slice (some ⟨kd, 0, none⟩) i i) ∧ w'.cell? ⟨kd, q, none⟩ = some (kv q)) (by kernel_rfl) ?_
          have k0 := (Kept.refl (fun _ => False) wr).drew
          have hHeld := SS.out _ k0
          simp only [List.size_toArray, List.length_cons, List.length_nil, Nat.zero_add, Nat.reduceAdd]
          refine tF (v := ?_) 0 opAt0 ?_ hHeld ?_
          case refine_2 => (intro w hSw; (try dsimp only at hSw); go_simp; all_goals (with_reducible rfl))
          (try simp only [Act.put]); try simp only [z2, List.set]
          refine tF (v := ?_) 1 opAt1 ?_ hHeld ?_
          case refine_2 => (intro w hSw; (try dsimp only at hSw); go_simp; all_goals (with_reducible rfl))
          (try simp only [Act.put]); try simp only [z2, List.set]
          refine tF (v := ?_) 2 opAt2 ?_ hHeld ?_
          case refine_2 => (intro w hSw; (try dsimp only at hSw); go_simp; all_goals (with_reducible rfl))
          (try simp only [Act.put]); try simp only [z2, List.set]
          refine tF (v := ?_) 3 opAt3 ?_ hHeld ?_
          case refine_2 => (intro w hSw; (try dsimp only at hSw); go_simp; all_goals (with_reducible rfl))
          (try simp only [Act.put]); try simp only [z2, List.set]
          refine tF (v := ?_) 4 opAt4 ?_ hHeld ?_
          case refine_2 => (intro w hSw; (try dsimp only at hSw); go_simp; all_goals (with_reducible rfl))
          (try simp only [Act.put]); try simp only [z2, List.set]
          refine tF (v := ?_) 5 opAt5 ?_ hHeld ?_
          case refine_2 => (intro w hSw; (try dsimp only at hSw); go_simp; all_goals (with_reducible rfl))
          (try simp only [Act.put]); try simp only [z2, List.set]
          refine tF (v := ?_) 6 opAt6 ?_ hHeld ?_
          case refine_2 => (intro w hSw; (try dsimp only at hSw); go_simp; all_goals (with_reducible rfl))
          (try simp only [Act.put]); try simp only [z2, List.set]
          refine tF (v := ?_) 7 opAt7 ?_ hHeld ?_
          case refine_2 => (intro w hSw; (try dsimp only at hSw); go_simp; all_goals (with_reducible rfl))
          (try simp only [Act.put]); try simp only [z2, List.set]
          refine tF (v := ?_) 8 opAt8 ?_ hHeld ?_
          case refine_2 => (intro w hSw; (try dsimp only at hSw); go_simp; all_goals (with_reducible rfl))
          (try simp only [Act.put]); try simp only [z2, List.set]
          refine tF (v := ?_) 9 opAt9 ?_ hHeld ?_
          case refine_2 => (intro w hSw; (try dsimp only at hSw); go_simp; all_goals (with_reducible rfl))
          (try simp only [Act.put]); try simp only [z2, List.set]
          refine tF (v := ?_) 10 opAt10 ?_ hHeld ?_
          case refine_2 => (intro w hSw; (try dsimp only at hSw); go_simp; all_goals (with_reducible rfl))
          (try simp only [Act.put]); try simp only [z2, List.set]
          refine tF (v := ?_) 11 opAt11 ?_ hHeld ?_
          case refine_2 => (intro w hSw; (try dsimp only at hSw); go_simp; all_goals (with_reducible rfl))
          (try simp only [Act.put]); try simp only [z2, List.set]
          refine tF (v := ?_) 12 opAt12 ?_ hHeld ?_
          case refine_2 => (intro w hSw; (try dsimp only at hSw); go_simp; all_goals (with_reducible rfl))
          (try simp only [Act.put]); try simp only [z2, List.set]
          refine next1 13 (by kernel_rfl) opAt13 fun K' hK => ?_
          go_simp
          have hHeld := SS.out (wr.drew.alloc (.cells #[.int .i64 (j : Int)] 3)) (k0.alloc _)
          refine hK _ _ ⟨fun _ => hHeld, ?_⟩
          clear hK K'
          (try simp only [Act.put]); try simp only [z2, List.set]
          refine next1 14 (by kernel_rfl) opAt14 fun K' hK => ?_
          refine step_app (by rfl) _ _ 55 (by rfl) b0 3 i3 _ 1 8 Try.underlying55 hi3 z3 s3 b3 (by rfl) (by decide) (kv q) (kidF R j q).length _ (by rfl) ((World.ownsRow.drew (KA.out.each q hqn)).alloc _) ⟨_, 0, none⟩ 1 1 [.int .i64 ((j : Nat) : Int)] (by rfl) (by rfl) ?_ ?_ ?_ ?_ ?_ ?_
          ·exact World.news_of_block (heap_alloc_new _ _)
          ·intro u hu; simp at hu; subst hu; rfl
          ·have := kidF_len R j q; unfold maxLen; omega
          ·have := kidF_len R j q; omega
          ·have := B0.out; have := KJ.out.size; simp [World.drew]; omega
          intro ao' cap' w6 hown hgr hat
          have KV := Lib.hid (grown_kept hgr)
          have KW6 := Lib.hid (((k0.alloc _).mono (fun _ _ f => f.elim) : Kept (fun k => (kv q).ownBlock = some k) wr _).trans KV.out (fun _ _ h => h) (fun _ _ h => h) : Kept (fun k => (kv q).ownBlock = some k) wr w6)
          have OWN := Lib.hid hown
          have HAT := Lib.hid (show (Value.slice ao' ((kidF R j q).length + 1) cap').ownBlock = (kv q).ownBlock ∨ ∃ b, (Value.slice ao' ((kidF R j q).length + 1) cap').ownBlock = some b ∧ wr.heap.size ≤ b from hat.imp id (fun e => ⟨_, e, by simp [World.drew]⟩))
          clear hown hgr hat
          have hHeld := (⟨KW6.out.cell (SS.out _ (Kept.refl _ wr)).1 (fun e => by have h1 := own_lt (KA.out.each q hqn) e; have h2 := OLDB.out; simp only at h1; omega), KW6.out.cell (SS.out _ (Kept.refl _ wr)).2 (fun e => by have h1 := own_lt (KA.out.each q hqn) e; have h2 := KA.out.old; simp only at h1; omega)⟩ : w6.cell? ⟨wb, 3, none⟩ = some (.slice (some ⟨kd, 0, none⟩) i i) ∧ w6.cell? ⟨kd, q, none⟩ = some (kv q))
          refine hK _ _ ⟨fun _ => hHeld, ?_⟩
          clear hK K'
          (try simp only [Act.put]); try simp only [z2, List.set]
          refine tF (v := ?_) 15 opAt15 ?_ hHeld ?_
          case refine_2 => (intro w hSw; (try dsimp only at hSw); go_simp; all_goals (with_reducible rfl))
          (try simp only [Act.put]); try simp only [z2, List.set]
          refine next1 16 (by kernel_rfl) opAt16 fun K' hK => ?_
          refine step_store1 (by rfl) 55 _ _ (by rfl) kd q (.slice ao' ((kidF R j q).length + 1) cap') (by rfl) (by rfl) (by rw [hHeld.2]; rfl) ?_ sz49 rfl rfl ?_
          ·exact (own_keptS KA.out.top KW6.out (fun b hb e => by have h1 := own_lt (KA.out.each q hqn) e; have h2 := KA.out.old; cases hb; simp only at h1; omega)).frozenAt _
          intro W2 hW2
          have KA2 := Lib.hid (KA.out.push hqn HP.out HH0.out KW6.out OWN.out HAT.out hW2)
          have KJ2 := Lib.hid ((KJ.out.trans KW6.out (fun _ _ h => h) (fun k h1 h2 => by have h3 := own_lt (KA.out.each q hqn) h2; have := B0.out; omega) : Kept (fun k => k = kd) w5 w6).trans (show Kept (fun k => k = kd) w6 W2 from by rw [hW2]; exact kept_put w6 kd q _) (fun _ _ h => h) (fun _ _ h => h) : Kept (fun k => k = kd) w5 W2)
          clear hW2
          refine hK _ _ ⟨fun h => absurd rfl h, ?_⟩
          clear hK K'
          (try simp only [Act.put]); try simp only [z2, List.set]
          refine wpAnyF_done (by kernel_rfl) ?_ _
          go_wp2
          go_roundg (i - (j + 1))
          case measure => have := G3.out; omega
          case rel => exact ⟨j + 1, _, by omega, by go_num, KA2.out, KJ2.out⟩
       ·have j0 : ¬ (j : Int) < (i : Int) := by omega
        obtain rfl : i = j := by have := G3.out; omega
        go_wp2
        go_ret
        have KALL := Lib.hid (((KK.out.trans LD.out.kept (fun _ _ h => h) (fun k h1 h2 => by have := HWB.out; omega) : Kept (fun _ => False) w1 w2).trans K25.out (fun _ _ h => h) (fun k h1 h2 => by have h3 := HWB.out; have h4 := own_lt LD.out.head rfl; simp only at h4; omega) : Kept (fun _ => False) w1 w5).trans KJ.out (fun _ _ h => h) (fun k h1 h2 => by have h3 := HWB.out; have h4 := own_lt LD.out.kids rfl; simp only at h4; omega) : Kept (fun _ => False) w1 wr)
        rw [HRR.out]
        have SZ := Lib.hid (show w.heap.size ≤ wb ∧ w.heap.size ≤ hd ∧ w.heap.size ≤ kd ∧ w.heap.size ≤ b0 from by
         have h1 := LD.out.gh_new; have h2 := LD.out.gk_new; have h3 := KK.out.size; have h4 := K1.out.size; have h5 := HWB.out; have h6 := K25.out.size; have h7 := LD.out.kept.size; have h8 := B0.out
         omega)
        refine ⟨wb, rfl, ⟨SZ.out.1, ⟨_, KJ.out.cell (K25.out.cell (own_cellN LD.out.wood (i := 0) rfl) BL.out.1) BL.out.2.1, ?_⟩, ⟨hd, SZ.out.2.1, ?_, fun x hx => ?_⟩, ⟨kd, SZ.out.2.2.1, ?_, fun x hx => ?_⟩⟩, keptFF K1.out KALL.out⟩
        ·exact ⟨ao, cap, by rw [HN.out], RDB.out.imp id (fun ⟨g, o, e1, hb, hc⟩ => ⟨g, o, e1, hb, fun j u hu => KALL.out.cell (hc j u hu) (fun f => f)⟩)⟩
        ·rw [HN.out]; exact KJ.out.cell (K25.out.cell (own_cellN LD.out.wood (i := 2) rfl) BL.out.1) BL.out.2.1
        ·rw [HN.out] at hx
         rw [← HDE.out x hx]
         exact KJ.out.cell (own_cell HO5.out (bools_at (by rw [HL5.out]; exact hx))) LD.out.ne
        ·rw [HN.out]; exact KJ.out.cell (K25.out.cell (own_cellN LD.out.wood (i := 3) rfl) BL.out.1) BL.out.2.1
        ·rw [HN.out] at hx ⊢
         refine ⟨kv x, own_cell KA.out.top (by simp [hx]), ?_⟩
         rcases row_form (KA.out.each x hx) with ⟨e1, e2⟩ | ⟨g', c', e1, _, hb', _, hc⟩
         ·exact ⟨none, 0, by rw [e1, e2], .inl (List.eq_nil_of_length_eq_zero e2)⟩
         ·exact ⟨_, c', e1, .inr ⟨g', 0, rfl, by have := SZ.out.2.2.2; omega, fun j u hu => by rw [Nat.zero_add]; exact hc j u hu⟩⟩
end Go.Proofs.Ytibakmchgppndaa
/- Forests, how they lie in memory, and lists of nodes that grow. -/
namespace Go.Proofs.Ytibakmchgppndaa
open Go.RowKit

/-- A list of nodes, each with the list of its kids. -/
inductive Fr where
 | nil
 | cons (s : Spn) (kids rest : Fr)
 deriving Inhabited
def Fr.len : Fr → Nat
 | .nil => 0
 | .cons _ _ r => r.len + 1
def Fr.app : Fr → Fr → Fr
 | .nil, b => b
 | .cons s k r, b => .cons s k (r.app b)
def Fr.flat : Fr → List Spn
 | .nil => []
 | .cons s k r => s :: (k.flat ++ r.flat)
/-- As it lies from an address on; all blocks that it has meet S. -/
def RowF (S : Nat → Prop) (w : World) (g o : Nat) : Fr → Prop
 | .nil => True
 | .cons s k r => S g ∧ (∀ j u, s.cells[j]? = some u → w.cell? ⟨g, o + j, none⟩ = some u) ∧
   (∃ ao cap, w.cell? ⟨g, o + 8, none⟩ = some (.slice ao k.len cap) ∧ (k = .nil ∨ ∃ g' o', ao = some ⟨g', o', none⟩ ∧ RowF S w g' o' k)) ∧ RowF S w g (o + 9) r
def ReadsF (S : Nat → Prop) (w : World) (v : Value) (f : Fr) : Prop := ∃ ao cap, v = .slice ao f.len cap ∧ (f = .nil ∨ ∃ g o, ao = some ⟨g, o, none⟩ ∧ RowF S w g o f)
theorem RowF.kept {S T S' : Nat → Prop} {w w' : World} (K : Kept T w w') (h1 : ∀ k, k < w.heap.size → S k → ¬ T k) (h2 : ∀ k, k < w.heap.size → S k → S' k) : ∀ (f : Fr) {g o : Nat}, RowF S w g o f → RowF S' w' g o f
 | .nil, _, _, _ => trivial
 | .cons s k r, g, o, h => by
  obtain ⟨a, b, ⟨ao, cap, c, d⟩, e⟩ := h
  have hg : g < w.heap.size := World.block_lt_of_cell? _ _ c
  refine ⟨h2 g hg a, fun j u hu => K.cell (b j u hu) (h1 g hg a), ⟨ao, cap, K.cell c (h1 g hg a), d.imp id ?_⟩, RowF.kept K h1 h2 r e⟩
  rintro ⟨g', o', e1, d1⟩
  exact ⟨g', o', e1, RowF.kept K h1 h2 k d1⟩
theorem ReadsF.keptS {S T S' : Nat → Prop} {w w' : World} {v : Value} {f : Fr} (h : ReadsF S w v f) (K : Kept T w w') (h1 : ∀ k, k < w.heap.size → S k → ¬ T k) (h2 : ∀ k, k < w.heap.size → S k → S' k) : ReadsF S' w' v f := by
 obtain ⟨ao, cap, rfl, h⟩ := h
 refine ⟨ao, cap, rfl, h.imp id ?_⟩
 rintro ⟨g, o, e1, h3⟩
 exact ⟨g, o, e1, RowF.kept K h1 h2 f h3⟩
theorem ReadsF.kept {S : Nat → Prop} {w w' : World} {v : Value} {f : Fr} (h : ReadsF S w v f) (K : Kept (fun _ => False) w w') : ReadsF S w' v f := h.keptS K (fun _ _ _ f => f) (fun _ _ h => h)

/-- A node in a list that grows: its span, its kids' value, and what that reads as. -/
structure NR where
 s : Spn
 v : Value
 f : Fr
def cellsN : List NR → List Value
 | [] => []
 | x :: t => (x.s.cells ++ [x.v]) ++ cellsN t
theorem cellsN_append : ∀ a b, cellsN (a ++ b) = cellsN a ++ cellsN b
 | [], _ => rfl
 | x :: t, b => by simp [cellsN, cellsN_append t b]
theorem cellsN_length : ∀ l, (cellsN l).length = l.length * 9
 | [] => rfl
 | x :: t => by simp [cellsN, cellsN_length t, Spn.cells]; omega
def frN : List NR → Fr
 | [] => .nil
 | x :: t => .cons x.s x.f (frN t)
theorem frN_len : ∀ l, (frN l).len = l.length
 | [] => rfl
 | x :: t => by simp [frN, Fr.len, frN_len t]
structure Grown (b0 : Nat) (A : Nat → Prop) (w : World) (kv : Value) (l : List NR) : Prop where
 row : w.ownsRow b0 93 9 kv l.length (cellsN l)
 own : ∀ k, kv.ownBlock = some k → A k
 kids : ∀ x ∈ l, ReadsF (fun k => b0 ≤ k ∧ ¬ A k) w x.v x.f
theorem Grown.nil (b0 : Nat) (A : Nat → Prop) (w : World) : Grown b0 A w (.slice none 0 0) [] := ⟨own_nil _ _ _ _, fun _ h => (by cases h), fun _ h => (by cases h)⟩
theorem Grown.keep {b0 : Nat} {A T : Nat → Prop} {w w' : World} {kv : Value} {l : List NR} (h : Grown b0 A w kv l) (K : Kept T w w') (hT : ∀ k, k < w.heap.size → T k → k < b0) : Grown b0 A w' kv l :=
 ⟨own_keptS h.row K (fun b hb t => by have := own_lt h.row hb; have := hT b this.2 t; omega), h.own, fun x hx => (h.kids x hx).keptS K (fun k hk hs t => by have := hT k hk t; omega) (fun _ _ h => h)⟩
theorem Grown.push {b0 : Nat} {A : Nat → Prop} {w w5 w6 : World} {kv nv v : Value} {l : List NR} {s : Spn} {f : Fr} (h : Grown b0 A w kv l) (hA : ∀ k, A k → k < w.heap.size) (hb : b0 ≤ w.heap.size) (k5 : Kept (fun _ => False) w w5)
  (hv : ReadsF (fun k => w.heap.size ≤ k) w5 v f) (h6 : Kept (fun k => kv.ownBlock = some k) w5 w6) (hown : w6.ownsRow b0 93 9 nv (l.length + 1) (cellsN l ++ (s.cells ++ [v]))) (hat : nv.ownBlock = kv.ownBlock ∨ ∃ b, nv.ownBlock = some b ∧ w5.heap.size ≤ b) :
  Grown b0 (fun k => A k ∨ nv.ownBlock = some k) w6 nv (l ++ [⟨s, v, f⟩]) := by
 refine ⟨by rw [cellsN_append]; simpa [cellsN] using hown, fun k hk => .inr hk, fun x hx => ?_⟩
 rw [List.mem_append] at hx
 rcases hx with hx | hx
 ·refine ((h.kids x hx).keptS k5 (fun _ _ _ f => f) (S' := fun k => b0 ≤ k ∧ ¬ A k ∧ k < w.heap.size) (fun k hk hs => ⟨hs.1, hs.2, hk⟩)).keptS h6 (fun k _ hs e => hs.2.1 (h.own k e)) (fun k _ hs => ⟨hs.1, fun hn => ?_⟩)
  rcases hn with hn | hn
  ·exact hs.2.1 hn
  ·rcases hat with e | ⟨b, e, hb'⟩
   ·exact hs.2.1 (h.own k (e ▸ hn))
   ·rw [e] at hn; cases hn
    have := k5.size; omega
 ·obtain rfl := List.mem_singleton.1 hx
  refine hv.keptS h6 (fun k _ hs e => by have := hA k (h.own k e); omega) (fun k hk hs => ⟨by omega, fun hn => ?_⟩)
  rcases hn with hn | hn
  ·have := hA k hn; omega
  ·rcases hat with e | ⟨b, e, hb'⟩
   ·have := hA k (h.own k (e ▸ hn)); omega
   ·rw [e] at hn; cases hn; omega
/-- Another list, while one grows. -/
theorem Grown.beside {b0 : Nat} {A : Nat → Prop} {w w5 w6 : World} {kv nv ov : Value} {l : List NR} (h : Grown b0 A w ov l) (k5 : Kept (fun _ => False) w w5)
  (h6 : Kept (fun k => kv.ownBlock = some k) w5 w6) (hk : ∀ k, kv.ownBlock = some k → A k ∧ ov.ownBlock ≠ some k) (hat : nv.ownBlock = kv.ownBlock ∨ ∃ b, nv.ownBlock = some b ∧ w5.heap.size ≤ b) :
  Grown b0 (fun k => A k ∨ nv.ownBlock = some k) w6 ov l := by
 refine ⟨own_keptS (own_keptS h.row k5 (fun _ _ f => f)) h6 (fun b hb e => (hk b e).2 hb), fun k hk => .inl (h.own k hk), fun x hx => ?_⟩
 refine ((h.kids x hx).keptS k5 (fun _ _ _ f => f) (S' := fun k => b0 ≤ k ∧ ¬ A k ∧ k < w.heap.size) (fun k hk hs => ⟨hs.1, hs.2, hk⟩)).keptS h6 (fun k _ hs e => hs.2.1 (hk k e).1) (fun k _ hs => ⟨hs.1, fun hn => ?_⟩)
 rcases hn with hn | hn
 ·exact hs.2.1 hn
 ·rcases hat with e | ⟨b, e, hb'⟩
  ·exact hs.2.1 (hk k (e ▸ hn)).1
  ·rw [e] at hn; cases hn
   have := k5.size; omega
theorem cellsN_at : ∀ (l : List NR) (i : Nat) (x : NR), l[i]? = some x → ∀ k, k < 9 → (cellsN l)[i * 9 + k]? = (x.s.cells ++ [x.v])[k]?
 | [], i, m, h, _, _ => by simp at h
 | x :: t, 0, m, h, k, hk => by
  simp at h; subst h
  rw [cellsN, List.getElem?_append_left (by simp [Spn.cells]; omega)]; simp
 | x :: t, i + 1, m, h, k, hk => by
  have := cellsN_at t i m (by simpa using h) k hk
  rw [cellsN, List.getElem?_append_right (by simp [Spn.cells]; omega), ← this]
  congr 1; simp [Spn.cells]; omega
theorem rowF_of {S : Nat → Prop} {w : World} {g : Nat} (hg : S g) : ∀ (l : List NR) (o : Nat), (∀ x ∈ l, ReadsF S w x.v x.f) → (∀ j u, (cellsN l)[j]? = some u → w.cell? ⟨g, o + j, none⟩ = some u) → RowF S w g o (frN l)
 | [], _, _, _ => trivial
 | x :: t, o, hk, hc => by
  have h9 : (x.s.cells ++ [x.v]).length = 9 := by simp [Spn.cells]
  have hx : ∀ j u, (x.s.cells ++ [x.v])[j]? = some u → w.cell? ⟨g, o + j, none⟩ = some u := fun j u hu => hc j u (by
   have hj := (List.getElem?_eq_some_iff.1 hu).1
   rw [cellsN, List.getElem?_append_left (by omega)]; exact hu)
  obtain ⟨ao, cap, e, hr⟩ := hk x (by simp)
  refine ⟨hg, fun j u hu => hx j u ?_, ⟨ao, cap, ?_, hr⟩, rowF_of hg t (o + 9) (fun y hy => hk y (by simp [hy])) (fun j u hu => ?_)⟩
  ·have hj := (List.getElem?_eq_some_iff.1 hu).1
   rw [List.getElem?_append_left hj]; exact hu
  ·rw [← e]; exact hx 8 _ rfl
  ·have := hc (9 + j) u (by rw [cellsN, List.getElem?_append_right (by omega), show 9 + j - (x.s.cells ++ [x.v]).length = j by omega]; exact hu)
   rwa [← Nat.add_assoc] at this
/-- What has grown reads as a forest. -/
theorem Grown.reads {b0 : Nat} {A : Nat → Prop} {w : World} {kv : Value} {l : List NR} (h : Grown b0 A w kv l) : ReadsF (fun k => b0 ≤ k) w kv (frN l) := by
 rcases row_form h.row with ⟨e1, e2⟩ | ⟨g, c, e1, _, hb, _, hc⟩
 ·obtain rfl := List.eq_nil_of_length_eq_zero e2
  exact ⟨none, 0, e1, .inl rfl⟩
 ·refine ⟨_, c, by rw [e1, frN_len], .inr ⟨g, 0, rfl, rowF_of hb l 0 (fun x hx => ?_) (fun j u hu => by rw [Nat.zero_add]; exact hc j u hu)⟩⟩
  obtain ⟨ao, cap, e, hr⟩ := h.kids x hx
  refine ReadsF.keptS (h.kids x hx) (Kept.refl (fun _ => False) w) (fun _ _ _ f => f) (fun k _ hs => hs.1)
end Go.Proofs.Ytibakmchgppndaa
/- The tree of a wood: which node is below which, and that nothing is below itself. Nothing of the program is run here. -/
namespace Go.Proofs.Ytibakmchgppndaa

def forF (g : Nat → Fr) (R : List Spn) : List Nat → Fr
 | [] => .nil
 | k :: t => .cons (nth R k) (g k) (forF g R t)
noncomputable def subF (R : List Spn) : Nat → Nat → Fr
 | 0, _ => .nil
 | d + 1, i => forF (subF R d) R (kidF R R.length i)
def Low (R : List Spn) : Nat → Nat → Prop
 | 0, _ => False
 | d + 1, i => ∀ k ∈ kidF R R.length i, Low R d k
theorem mem_kidF {R : List Spn} {m x k : Nat} : k ∈ kidF R m x ↔ k < m ∧ pF R k = some x ∧ hdF R k = false := by
 simp [kidF]
theorem forF_len (g : Nat → Fr) (R : List Spn) : ∀ l, (forF g R l).len = l.length
 | [] => rfl
 | _ :: t => by simp [forF, Fr.len, forF_len g R t]
theorem forF_app (g : Nat → Fr) (R : List Spn) : ∀ a b, forF g R (a ++ b) = (forF g R a).app (forF g R b)
 | [], _ => rfl
 | _ :: t, b => by simp [forF, Fr.app, forF_app g R t b]
theorem frN_app : ∀ a b, frN (a ++ b) = (frN a).app (frN b)
 | [], _ => rfl
 | _ :: t, b => by simp [frN, Fr.app, frN_app t b]

section
variable {p : Nat → Option Nat}
/-- Of each cycle there is a least. -/
theorem cyc_least {x : Nat} (h : OnCyc p x) : ∃ r y, it p r x = some y ∧ Least p y := by
 have hmin : ∀ y, (∃ r, it p r x = some y) → ∃ z, (∃ r, it p r x = some z) ∧ ∀ u, (∃ r, it p r x = some u) → z ≤ u := by
  intro y
  induction y using Nat.strongRecOn with
  | _ y ih =>
   intro hy
   by_cases c : ∃ u, u < y ∧ ∃ r, it p r x = some u
   ·obtain ⟨u, a, b⟩ := c; exact ih u a b
   ·exact ⟨y, hy, fun u hu => Nat.le_of_not_lt fun l => c ⟨u, l, hu⟩⟩
 obtain ⟨z, ⟨r, hr⟩, hz⟩ := hmin x ⟨0, rfl⟩
 exact ⟨r, z, hr, cyc_along h hr, fun s y hy => hz y ⟨r + s, by rw [it_add' hr]; exact hy⟩⟩
end
/-- Who goes up and up meets a head. -/
theorem no_end (R : List Spn) {x : Nat} (hx : x < R.length) (h : ∀ t, ∃ y, it (pF R) t x = some y ∧ hdF R y = false) : False := by
 have hp : ∀ x y, x < R.length → pF R x = some y → y < R.length := fun _ _ _ h => pF_lt h
 have hex : ∃ s s', s < s' ∧ it (pF R) s x = it (pF R) s' x := by
  refine Classical.byContradiction fun hno => ?_
  have := inj_le (n := R.length) (t := R.length + 1) (fun s => (it (pF R) s x).getD 0) (fun s _ => by
   obtain ⟨y, hy, _⟩ := h s
   simp only [hy, Option.getD_some]; exact it_lt hp hx hy) (fun s s' a b e => hno ⟨s, s', a, by
   obtain ⟨y, hy, _⟩ := h s
   obtain ⟨z, hz, _⟩ := h s'
   simp only [hy, hz, Option.getD_some] at e
   rw [hy, hz, e]⟩)
  omega
 obtain ⟨s, s', a, e⟩ := hex
 obtain ⟨y, hy, _⟩ := h s
 have hc : OnCyc (pF R) y := ⟨s' - s, by omega, by rw [← it_add' hy, show s + (s' - s) = s' by omega, ← e]; exact hy⟩
 obtain ⟨r, z, hr, hz⟩ := cyc_least hc
 obtain ⟨u, hu, hh⟩ := h (s + r)
 rw [it_add' hy, hr] at hu
 cases hu
 rw [(hdF_iff R z).2 (.inr hz)] at hh
 cases hh
/-- Nothing is below itself: so many levels are enough. -/
theorem low_all (R : List Spn) {i : Nat} (hi : i < R.length) : Low R (R.length + 1) i := by
 refine Classical.byContradiction fun hno => ?_
 have hch : ∀ m i, i < R.length → ¬ Low R m i → ∃ c : Nat → Nat, c 0 = i ∧ (∀ t, t ≤ m → c t < R.length) ∧ ∀ t, t < m → pF R (c (t + 1)) = some (c t) ∧ hdF R (c (t + 1)) = false := by
  intro m
  induction m with
  | zero => intro i hi _; exact ⟨fun _ => i, rfl, fun _ _ => hi, fun t h => by omega⟩
  | succ m ih =>
   intro i hi hl
   have : ∃ k, k ∈ kidF R R.length i ∧ ¬ Low R m k := Classical.byContradiction fun hn => hl (fun k hk => Classical.byContradiction fun h => hn ⟨k, hk, h⟩)
   obtain ⟨k, hk, hl2⟩ := this
   obtain ⟨a, b, d⟩ := mem_kidF.1 hk
   obtain ⟨c, h0, h1, h2⟩ := ih k a hl2
   refine ⟨fun t => if t = 0 then i else c (t - 1), rfl, fun t ht => ?_, fun t ht => ?_⟩
   ·by_cases z : t = 0
    ·simp [z, hi]
    ·simp only [z, if_false]; exact h1 _ (by omega)
   ·by_cases z : t = 0
    ·subst z; simp [h0, b, d]
    ·have := h2 (t - 1) (by omega)
     rw [show t - 1 + 1 = t by omega] at this
     simpa [z] using this
 obtain ⟨c, _, h1, h2⟩ := hch _ i hi hno
 have hex : ∃ s s', s < s' ∧ s' ≤ R.length ∧ c s = c s' := by
  refine Classical.byContradiction fun hn => ?_
  have := inj_le (n := R.length) (t := R.length + 1) c (fun s hs => h1 s (by omega)) (fun s s' a b e => hn ⟨s, s', a, by omega, e⟩)
  omega
 obtain ⟨s, s', a, b, e⟩ := hex
 refine no_end R (h1 s' (by omega)) (fun t => ?_)
 have : ∃ j, s < j ∧ j ≤ s' ∧ it (pF R) t (c s') = some (c j) := by
  induction t with
  | zero => exact ⟨s', a, Nat.le_refl _, rfl⟩
  | succ t ih =>
   obtain ⟨j, j1, j2, j3⟩ := ih
   have h3 := (h2 (j - 1) (by omega)).1
   rw [show j - 1 + 1 = j by omega] at h3
   by_cases z : s < j - 1
   ·exact ⟨j - 1, z, by omega, by simp only [it, j3]; exact h3⟩
   ·refine ⟨s', a, Nat.le_refl _, ?_⟩
    simp only [it, j3]
    rw [← e, show s = j - 1 by omega]; exact h3
 obtain ⟨j, j1, j2, j3⟩ := this
 have h3 := (h2 (j - 1) (by omega)).2
 rw [show j - 1 + 1 = j by omega] at h3
 exact ⟨c j, j3, h3⟩
end Go.Proofs.Ytibakmchgppndaa
/- The closure node of trees.Of. -/
namespace Go.Proofs.Ytibakmchgppndaa
open Go.RowKit

def zero9 : List Value := zeroT.cells ++ [.slice none 0 0]
theorem inf39 : (Try.prog.info? 93).map (fun i => (i.zero, i.size, i.bytes)) = some (some (.agg zero9.toArray), 9, 112) := by kernel_rfl
theorem info39 : (Try.prog.info? 93).map (·.size) = some 9 := by kernel_rfl
theorem node_all (m : Spn) (v : Value) (h : v.oneCell' = true) : (m.cells ++ [v]).toArray.all (·.oneCell') = true := all_oneCell_toArray (fun u hu => by
 simp [Spn.cells] at hu
 rcases hu with rfl | rfl | rfl | rfl | rfl | rfl | rfl | rfl | rfl <;> first | rfl | exact h)
theorem nodeVal (z : Spn) (v : Value) : Value.agg (z.cells ++ [v]).toArray = .agg #[.int .i64 z.tr, .int .i64 z.id, .int .i64 z.pa, .string z.se, .string z.ho, .int .i64 z.st, .int .i64 z.du, .string z.no, v] := rfl
theorem sz26 : (Try.prog.info? 58).map (·.size) = some 1 := by kernel_rfl
theorem node_new (w : World) : (w.alloc (.cells zero9.toArray 93)).ownsRow w.heap.size 93 9 (.slice (some ⟨w.heap.size, 0, none⟩) 1 1) 1 zero9 := by
 have h := World.ownsRow_lit (e := 93) (size := 9) w zero9.toArray 1 (Nat.le_refl w.heap.size) (by unfold maxLen; omega) rfl
 simpa using h
theorem there9 {w : World} {base e g : Nat} {xs : List Value} (h : w.ownsRow base e 9 (.slice (some ⟨g, 0, none⟩) 1 1) 1 xs) : w.there g 0 9 := by
 intro j hj
 have hl : xs.length = 9 := by simpa using h.1
 have := own_cellN h (List.getElem?_eq_getElem (show j < xs.length by omega))
 rw [Nat.zero_add]
 exact ⟨by rw [this]; rfl, h.frozenAt _⟩
theorem setL_all : ∀ (vs xs : List Value), vs.length = xs.length → setL xs 0 vs = vs := by
 have : ∀ (vs a xs : List Value), vs.length = xs.length → setL (a ++ xs) a.length vs = a ++ vs := by
  intro vs
  induction vs with
  | nil => intro a xs h; simp at h; cases xs with | nil => simp [setL] | cons _ _ => simp at h
  | cons v r ih =>
   intro a xs h
   cases xs with
   | nil => simp at h
   | cons x t =>
    simp only [setL]
    rw [List.set_append_right _ _ (Nat.le_refl _), Nat.sub_self, List.set_cons_zero]
    have := ih (a ++ [v]) t (by simpa using h)
    simpa using this
 intro vs xs h
 simpa using this vs [] xs h
theorem own_all9 {w : World} {base e g : Nat} {xs : List Value} (h : w.ownsRow base e 9 (.slice (some ⟨g, 0, none⟩) 1 1) 1 xs) (vs : List Value) (hv : vs.length = 9) : (w.setCells g 0 vs).ownsRow base e 9 (.slice (some ⟨g, 0, none⟩) 1 1) 1 vs := by
 have := own_setL vs 0 h
 rwa [setL_all vs xs (by have := h.1; omega)] at this

/-- The two blocks that a node is made in. -/
structure Begun (w W : World) (rb : Nat) (vs : List Value) : Prop where
 new : w.heap.size = rb
 kept : Kept (fun _ => False) w W
 size : W.heap.size = rb + 2
 x : W.ownsRow (rb + 1) 93 9 (.slice (some ⟨rb + 1, 0, none⟩) 1 1) 1 vs
 res : W.ownsRow rb 93 9 (.slice (some ⟨rb, 0, none⟩) 1 1) 1 zero9
theorem begun (w : World) (vs : List Value) (hv : vs.length = 9) : Begun w ((w.alloc (.cells zero9.toArray 93)).alloc (.cells vs.toArray 93)) w.heap.size vs := by
 have s1 : (w.alloc (.cells zero9.toArray 93)).heap.size = w.heap.size + 1 := Array.size_push _
 have h := World.ownsRow_lit (e := 93) (size := 9) (w.alloc (.cells zero9.toArray 93)) vs.toArray 1 (Nat.le_refl _) (by unfold maxLen; omega) (by simpa using hv)
 rw [s1] at h
 exact ⟨rfl, ((Kept.refl (fun _ => False) w).alloc _).alloc _, by rw [show ((w.alloc (.cells zero9.toArray 93)).alloc (.cells vs.toArray 93)).heap.size = (w.alloc (.cells zero9.toArray 93)).heap.size + 1 from Array.size_push _, s1], by simpa using h, (node_new w).alloc _⟩

set_option maxHeartbeats 8000000 in
set_option maxRecDepth 100000 in
theorem node_any (R : List Spn) (hl : R.length ≤ 1000) : ∀ (d : Nat) (w : World) (b i bw bn wb : Nat), Low R d i → i < R.length → w.cell? ⟨bw, 0, none⟩ = some (.pointer (some ⟨wb, 0, none⟩)) →
  w.cell? ⟨bn, 0, none⟩ = some (.func (.func 56) #[] #[.pointer (some ⟨bw, 0, none⟩), .pointer (some ⟨bn, 0, none⟩)]) → Wood b w wb R →
  Calls Try.prog 56 #[.int .i64 i, .pointer (some ⟨bw, 0, none⟩), .pointer (some ⟨bn, 0, none⟩)] w fun e w' => ∃ v, e = .returned (.agg ((nth R i).cells ++ [v]).toArray) ∧ ReadsF (fun k => w.heap.size ≤ k) w' v (subF R d i) ∧ Kept (fun _ => False) w w' := by
 intro d
 induction d with
 | zero => intro w b i bw bn wb h; exact h.elim
 | succ d ih =>
  intro w b i bw bn wb hlow hi hbw hbn hwd
  have WD := Lib.hid hwd
  obtain ⟨_, ⟨v0, c0, rv0⟩, _, ⟨gd, _, c3, fk⟩⟩ := hwd
  obtain ⟨vk, ck, rk⟩ := fk i hi
  obtain ⟨ao, cap, rfl, rd⟩ := rv0.plain
  obtain ⟨g, o, rfl, hc⟩ : ∃ g o, ao = some ⟨g, o, none⟩ ∧ ∀ j u, (cellsS R)[j]? = some u → w.cell? ⟨g, o + j, none⟩ = some u := by
   rcases rd with h | h
   ·subst h; simp at hi
   ·exact h
  obtain ⟨y, hy⟩ : ∃ y, nth R i = y := ⟨_, rfl⟩
  have gy := nth_get hi
  rw [hy] at gy
  obtain ⟨e0, e1, e2, e3, e4, e5, e6, e7⟩ := ReadsS.at hc gy
  have b4 := World.block_lt_of_cell? _ _ e0
  obtain ⟨ks, hks⟩ : ∃ ks, kidF R R.length i = ks := ⟨_, rfl⟩
  rw [hks] at rk
  obtain ⟨ak, capk, rfl, rdk'⟩ := rk
  have rdk : ks = [] ∨ ∃ g o, ak = some ⟨g, o, none⟩ ∧ ∀ j u, (nats ks)[j]? = some u → w.cell? ⟨g, o + j, none⟩ = some u := rdk'.imp id (fun ⟨g, o, e, _, c⟩ => ⟨g, o, e, c⟩)
  clear rdk'
  obtain ⟨m, hm⟩ : ∃ m, ks.length = m := ⟨_, rfl⟩
  rw [hm] at ck
  obtain ⟨n, hn⟩ : ∃ n, R.length = n := ⟨_, rfl⟩
  rw [hn] at c0 c3 hi hl
  have i0 : (0 : Int) ≤ (i : Int) := by omega
  have i1 : (i : Int) < (n : Int) := by omega
  have hml : m ≤ 1000 := by have := kidF_len R R.length i; rw [hks] at this; omega
  have HN := Lib.hid hn; have HM := Lib.hid hm; have HY := Lib.hid hy; have HKS := Lib.hid hks; have CW := Lib.hid hbw; have CN := Lib.hid hbn; have RDK := Lib.hid rdk
  have LW := Lib.hid (show ∀ k ∈ ks, Low R d k from by rw [← hks]; exact hlow)
  have KSM := Lib.hid (show ∀ k ∈ ks, k < n from fun k hk => by rw [← hks] at hk; have := (mem_kidF.1 hk).1; omega)
  clear hn hm hy hks gy rdk hlow hc rd fk hbn
  have b1 := World.block_lt_of_cell? _ _ hbw
  have b2 := World.block_lt_of_cell? _ _ c0
  have b3 := World.block_lt_of_cell? _ _ ck
  simp only at b1 b2 b3 b4
  obtain ⟨i39, hi39, z39, s39, b39⟩ := info_parts inf39
  rw [HY.out]
  go_enter Try.func56, Try.ntmps56
  go_wp2
  refine wp_gen (fun W => Begun w W w.heap.size (y.cells ++ [Value.slice none 0 0])) (begun w (y.cells ++ [Value.slice none 0 0]) rfl) ?_
  intro W bg
  obtain ⟨rb, hrb⟩ : ∃ r, w.heap.size = r := ⟨_, rfl⟩
  rw [hrb] at bg ⊢
  have BG := Lib.hid bg
  clear bg hrb e0 e1 e2 e3 e4 e5 e6 e7 b1 b2 b3 b4 hbw c0 c3 ck
  go_loopg [24] m (fun ghv s wr => ∃ (j : Nat) (kv : Value) (l : List NR) (A : Nat → Prop), j + ghv = m ∧ s = .int .i64 j ∧ wr.ownsRow (rb + 1) 93 9 (.slice (some ⟨rb + 1, 0, none⟩) 1 1) 1 (y.cells ++ [kv]) ∧ Grown (rb + 2) A wr kv l ∧ (∀ k, A k → k < wr.heap.size) ∧ l.length = j ∧ frN l = forF (subF R d) R (ks.take j) ∧ Kept (fun k => k = rb + 1) W wr)
  case atStart => exact ⟨0, .slice none 0 0, [], fun _ => False, by omega, by go_num, BG.out.x, Grown.nil _ _ _, fun _ f => f.elim, rfl, rfl, Kept.refl _ _⟩
  case round =>
   obtain ⟨j, kv, l, A, hg1, rfl, hxo, hgr, hA, hll, hfr, hk⟩ := hrel
   have G1 := Lib.hid hg1; have XO := Lib.hid hxo; have GR := Lib.hid hgr; have HA := Lib.hid hA; have LL := Lib.hid hll; have FR := Lib.hid hfr; have KK := Lib.hid hk
   clear hg1 hxo hgr hA hll hfr hk
   by_cases hjm : j < m
   ·have j0 : (j : Int) < (m : Int) := by omega
    have j1 : (0 : Int) ≤ (j : Int) := by omega
    have e1 : IntKind.i64.wrap ((j : Int) + 1) = ((j + 1 : Nat) : Int) := IntWalk.i64_in _ (by omega)
    obtain ⟨k, hkk⟩ : ∃ k, nth ks j = k := ⟨_, rfl⟩
    have gk := nth_get (l := ks) (k := j) (by rw [HM.out]; exact hjm)
    rw [hkk] at gk
    have hkm : k ∈ ks := List.mem_of_getElem? gk
    have hkn : k < R.length := by rw [HN.out]; exact KSM.out k hkm
    obtain ⟨g2, o2, rfl, hck⟩ : ∃ g o, ak = some ⟨g, o, none⟩ ∧ ∀ j u, (nats ks)[j]? = some u → w.cell? ⟨g, o + j, none⟩ = some u := by
     rcases RDK.out with h | h
     ·have := HM.out; subst h; simp at this; omega
     ·exact h
    have KW := Lib.hid (BG.out.kept.trans KK.out (fun _ _ h => h) (fun k h1 h2 => by have := BG.out.new; omega) : Kept (fun _ => False) w wr)
    have ckj := KW.out.cell (hck j _ (nats_at (by rw [HM.out]; exact hjm))) (fun f => f)
    rw [hkk] at ckj
    have GKK := Lib.hid gk; have HKM := Lib.hid hkm; have HKN := Lib.hid hkn; have HKK := Lib.hid hkk
    clear hkk gk hkm hkn hck
    obtain ⟨z, hz⟩ : ∃ z, nth R k = z := ⟨_, rfl⟩
    have HZ := Lib.hid hz
    clear hz
    have SS := Lib.hid (show ∀ w', Kept (fun _ => False) wr w' → w'.cell? ⟨rb + 1, 8, none⟩ = some kv ∧ w'.cell? ⟨bn, 0, none⟩ = some (.func (.func 56) #[] #[.pointer (some ⟨bw, 0, none⟩), .pointer (some ⟨bn, 0, none⟩)]) from fun w' k => ⟨k.cell (own_cellN XO.out (i := 8) rfl) (fun f => f), k.cell (KW.out.cell CN.out (fun f => f)) (fun f => f)⟩)
    have hkvs : ∃ a' c', kv = .slice a' l.length c' := by
     rcases row_form GR.out.row with ⟨q1, q2⟩ | ⟨g', c', q1, _⟩
     ·exact ⟨none, 0, by rw [q1, q2]⟩
     ·exact ⟨_, _, q1⟩
    go_wp2
    refine wp_region_last 8 (fun w' => w'.cell? ⟨rb + 1, 8, none⟩ = some kv ∧ w'.cell? ⟨bn, 0, none⟩ = some (.func (.func 56) #[] #[.pointer (some ⟨bw, 0, none⟩), .pointer (some ⟨bn, 0, none⟩)])) (by kernel_rfl) ?_
    have k0 := (Kept.refl (fun _ => False) wr).drew
    have hHeld := SS.out _ k0
    simp only [List.size_toArray, List.length_cons, List.length_nil, Nat.zero_add, Nat.reduceAdd]
    refine tF (v := ?_) 0 opAt0 ?_ hHeld ?_
    case refine_2 => (intro w hSw; (try dsimp only at hSw); go_simp; all_goals (with_reducible rfl))
    (try simp only [Act.put]); try simp only [z2, List.set]
    refine tF (v := ?_) 1 opAt1 ?_ hHeld ?_
    case refine_2 => (intro w hSw; (try dsimp only at hSw); go_simp; all_goals (with_reducible rfl))
    (try simp only [Act.put]); try simp only [z2, List.set]
    refine tF (v := ?_) 2 opAt2 ?_ hHeld ?_
    case refine_2 => (intro w hSw; (try dsimp only at hSw); go_simp; all_goals (with_reducible rfl))
    (try simp only [Act.put]); try simp only [z2, List.set]
    refine tF (v := ?_) 3 opAt3 ?_ hHeld ?_
    case refine_2 => (intro w hSw; (try dsimp only at hSw); go_simp; all_goals (with_reducible rfl))
    (try simp only [Act.put]); try simp only [z2, List.set]
    refine next1 4 (by kernel_rfl) opAt4 fun K' hK => ?_
    go_simp
    go_at_call 56
    refine (ih _ b k bw bn wb (LW.out k HKM.out) HKN.out ((keptFF KW.out k0).cell CW.out (fun f => f)) hHeld.2 (WD.out.kept (keptFF KW.out k0))).mono ?_
    rintro e w5 ⟨v5, rfl, rv5, k5⟩
    obtain ⟨a5, c5, ev, _⟩ := id rv5
    obtain ⟨n5, hn5⟩ : ∃ n, (subF R d k).len = n := ⟨_, rfl⟩
    rw [hn5] at ev
    subst ev
    clear hn5
    rw [HZ.out, nodeVal]
    have K5 := Lib.hid (keptFF k0 k5)
    have RV := Lib.hid rv5
    clear k5 rv5
    dsimp only
    have hHeld := SS.out _ K5.out
    refine hK _ _ ⟨fun _ => hHeld, ?_⟩
    clear hK K'
    (try simp only [Act.put]); try simp only [z2, List.set]
    refine next1 5 (by kernel_rfl) opAt5 fun K' hK => ?_
    go_simp
    have hHeld := SS.out (w5.alloc (.cells (z.cells ++ [Value.slice a5 n5 c5]).toArray 93)) (K5.out.alloc _)
    refine hK _ _ ⟨fun _ => hHeld, ?_⟩
    clear hK K'
    (try simp only [Act.put]); try simp only [z2, List.set]
    refine next1 6 (by kernel_rfl) opAt6 fun K' hK => ?_
    refine step_app (by rfl) _ _ 58 (by rfl) (rb + 2) 93 i39 _ 9 112 Try.underlying58 hi39 z39 s39 b39 (by rfl) (by decide) kv l.length _ (by rfl) ((own_keptS GR.out.row K5.out (fun _ _ f => f)).alloc _) ⟨_, 0, none⟩ 1 1 (z.cells ++ [Value.slice a5 n5 c5]) (by rfl) (by rfl) ?_ ?_ ?_ ?_ ?_ ?_
    ·exact World.news_of_block (heap_alloc_new _ _)
    ·intro u hu; simp [Spn.cells] at hu; rcases hu with rfl | rfl | rfl | rfl | rfl | rfl | rfl | rfl | rfl <;> rfl
    ·have := LL.out; unfold maxLen; omega
    ·have := LL.out; omega
    ·have h1 := BG.out.size; have h2 := KK.out.size; have h3 := K5.out.size; simp; omega
    intro ao' cap' w6 hown hgr hat
    have KV := Lib.hid (((Kept.refl (fun _ => False) w5).alloc _).trans (grown_kept hgr) (fun _ _ f => f.elim) (fun _ _ h => h) : Kept (fun k => kv.ownBlock = some k) w5 w6)
    have HAT := Lib.hid (show (Value.slice ao' (l.length + 1) cap').ownBlock = kv.ownBlock ∨ ∃ b, (Value.slice ao' (l.length + 1) cap').ownBlock = some b ∧ w5.heap.size ≤ b from hat.imp id (fun e => ⟨_, e, by simp⟩))
    have GR2 := Lib.hid (GR.out.push HA.out (by have h1 := BG.out.size; have h2 := KK.out.size; omega) K5.out RV.out KV.out hown HAT.out)
    have SZ := Lib.hid (show ∀ k, (A k ∨ (Value.slice ao' (l.length + 1) cap').ownBlock = some k) → k < w6.heap.size from fun k hk => hk.elim (fun h => by have h1 := HA.out k h; have h2 := K5.out.size; have h3 := KV.out.size; omega) (fun h => (own_lt hown h).2))
    clear hown hgr hat
    have hHeld := (⟨KV.out.cell (SS.out _ K5.out).1 (fun e => by have h1 := own_lt GR.out.row e; simp only at h1; omega), KV.out.cell (SS.out _ K5.out).2 (fun e => by have h1 := own_lt GR.out.row e; have h2 := World.block_lt_of_cell? _ _ CN.out; have h3 := BG.out.new; simp only at h1 h2; omega)⟩ : w6.cell? ⟨rb + 1, 8, none⟩ = some kv ∧ w6.cell? ⟨bn, 0, none⟩ = some (.func (.func 56) #[] #[.pointer (some ⟨bw, 0, none⟩), .pointer (some ⟨bn, 0, none⟩)]))
    refine hK _ _ ⟨fun _ => hHeld, ?_⟩
    clear hK K'
    (try simp only [Act.put]); try simp only [z2, List.set]
    refine tF (v := ?_) 7 opAt7 ?_ hHeld ?_
    case refine_2 => (intro w hSw; (try dsimp only at hSw); go_simp; all_goals (with_reducible rfl))
    (try simp only [Act.put]); try simp only [z2, List.set]
    refine next1 8 (by kernel_rfl) opAt8 fun K' hK => ?_
    have XO6 := Lib.hid (own_keptS (own_keptS XO.out K5.out (fun _ _ f => f)) KV.out (fun b hb e => by have h1 := own_lt GR.out.row e; cases hb; simp only at h1; omega))
    refine step_store1 (by rfl) 58 _ _ (by rfl) (rb + 1) 8 (.slice ao' (l.length + 1) cap') (by rfl) (by rfl) (by rw [hHeld.1]; rfl) (XO6.out.frozenAt _) sz26 rfl rfl ?_
    intro W2 hW2
    have XO2 := Lib.hid (show W2.ownsRow (rb + 1) 93 9 (.slice (some ⟨rb + 1, 0, none⟩) 1 1) 1 (y.cells ++ [.slice ao' (l.length + 1) cap']) from by rw [hW2]; exact own_putN XO6.out 8 _)
    have KP := Lib.hid (show Kept (fun k => k = rb + 1) w6 W2 from by rw [hW2]; exact kept_put w6 (rb + 1) 8 _)
    have GR3 := Lib.hid (GR2.out.keep KP.out (fun k _ e => by omega))
    have KK2 := Lib.hid (((KK.out.trans K5.out (fun _ _ h => h) (fun _ _ f => f.elim) : Kept (fun k => k = rb + 1) W w5).trans KV.out (fun _ _ h => h) (fun k h1 h2 => by have h3 := own_lt GR.out.row h2; have h4 := BG.out.size; omega) : Kept (fun k => k = rb + 1) W w6).trans KP.out (fun _ _ h => h) (fun _ _ h => h) : Kept (fun k => k = rb + 1) W W2)
    clear hW2
    refine hK _ _ ⟨fun h => absurd rfl h, ?_⟩
    clear hK K'
    (try simp only [Act.put]); try simp only [z2, List.set]
    refine wpAnyF_done (by kernel_rfl) ?_ _
    go_wp2
    go_roundg (m - (j + 1))
    case measure => have := G1.out; omega
    case rel => exact ⟨j + 1, _, _, _, by omega, by go_num, XO2.out, GR3.out, fun k hk => by have h1 := SZ.out k hk; have h2 := KP.out.size; omega, by simp [LL.out], by
     rw [frN_app, FR.out, List.take_add_one, GKK.out, Option.toList_some, forF_app]; simp only [frN, forF, HZ.out], KK2.out⟩
   ·have j0 : ¬ (j : Int) < (m : Int) := by omega
    have E1 := Lib.hid (show j = m from by have := G1.out; omega)
    have KW := Lib.hid (BG.out.kept.trans KK.out (fun _ _ h => h) (fun k h1 h2 => by have := BG.out.new; omega) : Kept (fun _ => False) w wr)
    have RO := Lib.hid (own_keptS BG.out.res KK.out (fun b hb e => by cases hb; simp only at e; omega))
    obtain ⟨a1, c1, hkv⟩ : ∃ a' c', kv = .slice a' l.length c' := by
     rcases row_form GR.out.row with ⟨q1, q2⟩ | ⟨g', c', q1, _⟩
     ·exact ⟨none, 0, by rw [q1, q2]⟩
     ·exact ⟨_, _, q1⟩
    obtain ⟨nl, hnl⟩ : ∃ n, l.length = n := ⟨_, rfl⟩
    rw [hnl] at hkv
    subst hkv
    clear hnl
    have x0 := own_cellN XO.out (i := 0) rfl; have x1 := own_cellN XO.out (i := 1) rfl; have x2 := own_cellN XO.out (i := 2) rfl; have x3 := own_cellN XO.out (i := 3) rfl
    have x4 := own_cellN XO.out (i := 4) rfl; have x5 := own_cellN XO.out (i := 5) rfl; have x6 := own_cellN XO.out (i := 6) rfl; have x7 := own_cellN XO.out (i := 7) rfl; have x8 := own_cellN XO.out (i := 8) rfl
    go_wp2_with (refine wpList_store_letter (by rfl) 93 _ _ (by rfl) rb 0 (y.cells ++ [Value.slice a1 nl c1]).toArray (by rfl) (by rfl) (there9 RO.out) info39 (node_all y _ rfl) ?_; intro W2 hW2; have RO2 := Lib.hid (show W2.ownsRow rb 93 9 (.slice (some ⟨rb, 0, none⟩) 1 1) 1 (y.cells ++ [Value.slice a1 nl c1]) from by rw [hW2]; exact own_all9 RO.out _ rfl); have KP := Lib.hid (show Kept (fun k => k = rb) wr W2 from by rw [hW2]; exact Kept.setCells (S := fun k => k = rb) (fun _ => rfl) _ 0 (Kept.refl _ wr)); clear hW2 x0 x1 x2 x3 x4 x5 x6 x7 x8; have r0 := own_cellN RO2.out (i := 0) rfl; have r1 := own_cellN RO2.out (i := 1) rfl; have r2 := own_cellN RO2.out (i := 2) rfl; have r3 := own_cellN RO2.out (i := 3) rfl; have r4 := own_cellN RO2.out (i := 4) rfl; have r5 := own_cellN RO2.out (i := 5) rfl; have r6 := own_cellN RO2.out (i := 6) rfl; have r7 := own_cellN RO2.out (i := 7) rfl; have r8 := own_cellN RO2.out (i := 8) rfl)
    refine bodyPost_ret (v := .agg (y.cells ++ [Value.slice a1 nl c1]).toArray) (by simp [results, Try.results56, go_sem, r0, r1, r2, r3, r4, r5, r6, r7, r8]; try rfl) rfl ?_
    refine ⟨.slice a1 nl c1, rfl, ?_, KW.out.trans KP.out (fun _ _ h => h) (fun k h1 h2 => by have := BG.out.new; omega)⟩
    have hf : frN l = subF R (d + 1) i := by rw [FR.out, subF, HKS.out, List.take_of_length_le (by rw [HM.out, E1.out]; exact Nat.le_refl _)]
    rw [← hf]
    exact GR.out.reads.keptS KP.out (fun k _ hs e => by omega) (fun k _ hs => by have := BG.out.new; omega)
end Go.Proofs.Ytibakmchgppndaa
/- trees.Of. -/
namespace Go.Proofs.Ytibakmchgppndaa
open Go.RowKit

noncomputable def rootsL (R : List Spn) (m : Nat) : List Nat := (List.range m).filter (fun k => !hdF R k && (nth R k).pa == 0)
noncomputable def orphL (R : List Spn) (m : Nat) : List Nat := (List.range m).filter (fun k => hdF R k)
noncomputable def rootsF (R : List Spn) : Fr := forF (subF R (R.length + 1)) R (rootsL R R.length)
noncomputable def orphF (R : List Spn) : Fr := forF (subF R (R.length + 1)) R (orphL R R.length)
theorem rootsL_snoc {R : List Spn} {m : Nat} (h : hdF R m = false) (hp : (nth R m).pa = 0) : rootsL R (m + 1) = rootsL R m ++ [m] := by
 simp [rootsL, List.range_succ, List.filter_append, h, hp]
theorem rootsL_skip {R : List Spn} {m : Nat} (h : hdF R m = true ∨ (nth R m).pa ≠ 0) : rootsL R (m + 1) = rootsL R m := by
 rcases h with h | h
 ·simp [rootsL, List.range_succ, List.filter_append, h]
 ·simp [rootsL, List.range_succ, List.filter_append, h]
theorem orphL_snoc {R : List Spn} {m : Nat} (h : hdF R m = true) : orphL R (m + 1) = orphL R m ++ [m] := by
 simp [orphL, List.range_succ, List.filter_append, h]
theorem orphL_skip {R : List Spn} {m : Nat} (h : hdF R m = false) : orphL R (m + 1) = orphL R m := by
 simp [orphL, List.range_succ, List.filter_append, h]
theorem sz48 : (Try.prog.info? 110).map (·.size) = some 1 := by kernel_rfl
theorem tree_new (w : World) : (w.alloc (.cells #[.slice none 0 0, .slice none 0 0] 60)).ownsRow w.heap.size 60 2 (.slice (some ⟨w.heap.size, 0, none⟩) 1 1) 1 [.slice none 0 0, .slice none 0 0] := by
 have h := World.ownsRow_lit (e := 60) (size := 2) w #[.slice none 0 0, .slice none 0 0] 1 (Nat.le_refl w.heap.size) (by unfold maxLen; omega) rfl
 simpa using h
theorem thereN {w : World} {base e g k : Nat} {xs : List Value} (h : w.ownsRow base e k (.slice (some ⟨g, 0, none⟩) 1 1) 1 xs) : w.there g 0 k := by
 intro j hj
 have hl : xs.length = k := by simpa using h.1
 have := own_cellN h (List.getElem?_eq_getElem (show j < xs.length by omega))
 rw [Nat.zero_add]
 exact ⟨by rw [this]; rfl, h.frozenAt _⟩
theorem own_allN {w : World} {base e g k : Nat} {xs : List Value} (h : w.ownsRow base e k (.slice (some ⟨g, 0, none⟩) 1 1) 1 xs) (vs : List Value) (hv : vs.length = k) : (w.setCells g 0 vs).ownsRow base e k (.slice (some ⟨g, 0, none⟩) 1 1) 1 vs := by
 have := own_setL vs 0 h
 rwa [setL_all vs xs (by have h1 := h.1; simp at h1; omega)] at this
theorem info28 : (Try.prog.info? 60).map (·.size) = some 2 := by kernel_rfl
/-- What Of has laid ahead of its loop. -/
structure Laid2 (w1 w2 : World) (wb bw bn : Nat) : Prop where
 new : w1.heap.size = bw
 next : bn = bw + 1
 kept : Kept (fun _ => False) w1 w2
 size : w2.heap.size = bw + 2
 cb : w2.cell? ⟨bw, 0, none⟩ = some (.pointer (some ⟨wb, 0, none⟩))
 cn : w2.cell? ⟨bn, 0, none⟩ = some (.func (.func 56) #[] #[.pointer (some ⟨bw, 0, none⟩), .pointer (some ⟨bn, 0, none⟩)])
theorem pre2 (w1 : World) (wb : Nat) : ((w1.alloc (.cells #[.pointer (some ⟨wb, 0, none⟩)] 108)).alloc (.cells #[Value.nilFunc] 110)).ownsRow (w1.heap.size + 1) 110 1 (.slice (some ⟨w1.heap.size + 1, 0, none⟩) 1 1) 1 [Value.nilFunc] := by
 have s1 : (w1.alloc (.cells #[.pointer (some ⟨wb, 0, none⟩)] 108)).heap.size = w1.heap.size + 1 := Array.size_push _
 have h := World.ownsRow_lit (e := 110) (size := 1) (w1.alloc (.cells #[.pointer (some ⟨wb, 0, none⟩)] 108)) #[Value.nilFunc] 1 (Nat.le_refl _) (by unfold maxLen; omega) rfl
 rw [s1] at h
 simpa using h
theorem laid2 (w1 W : World) (wb : Nat) (hW : W = ((w1.alloc (.cells #[.pointer (some ⟨wb, 0, none⟩)] 108)).alloc (.cells #[Value.nilFunc] 110)).setCell ⟨w1.heap.size + 1, 0, none⟩ (.func (.func 56) #[] #[.pointer (some ⟨w1.heap.size, 0, none⟩), .pointer (some ⟨w1.heap.size + 1, 0, none⟩)])) : Laid2 w1 W wb w1.heap.size (w1.heap.size + 1) := by
 have s1 : (w1.alloc (.cells #[.pointer (some ⟨wb, 0, none⟩)] 108)).heap.size = w1.heap.size + 1 := Array.size_push _
 have s2 : ((w1.alloc (.cells #[.pointer (some ⟨wb, 0, none⟩)] 108)).alloc (.cells #[Value.nilFunc] 110)).heap.size = w1.heap.size + 2 := by
  rw [show ∀ (w : World) (o : Obj), (w.alloc o).heap.size = w.heap.size + 1 from fun _ _ => Array.size_push _, s1]
 have hk := kept_put ((w1.alloc (.cells #[.pointer (some ⟨wb, 0, none⟩)] 108)).alloc (.cells #[Value.nilFunc] 110)) (w1.heap.size + 1) 0 (.func (.func 56) #[] #[.pointer (some ⟨w1.heap.size, 0, none⟩), .pointer (some ⟨w1.heap.size + 1, 0, none⟩)])
 rw [← hW] at hk
 refine ⟨rfl, rfl, (((Kept.refl (fun _ => False) w1).alloc _).alloc _).trans hk (fun _ _ f => f) (fun k h e => by omega), ?_, ?_, ?_⟩
 ·rw [← s2, hW]; simp [World.setCell]
 ·exact hk.cell (((Kept.refl (fun _ => False) _).alloc _).cell (cell_new1 w1 _ 108) (fun f => f)) (by simp only; omega)
 ·rw [hW]; exact own_cell (own_put (pre2 w1 wb) 0 _) rfl

set_option maxHeartbeats 8000000 in
set_option maxRecDepth 100000 in
theorem tof_any (w : World) (v : Value) (L : List Spn) (h : ReadsS w v L) (hl : L.length ≤ 1000) :
  Calls Try.prog 44 #[v] w fun e w' => ∃ rv ov, e = .returned (.agg #[rv, ov]) ∧ ReadsF (fun k => w.heap.size ≤ k) w' rv (rootsF (cntF L)) ∧ ReadsF (fun k => w.heap.size ≤ k) w' ov (orphF (cntF L)) ∧ Kept (fun _ => False) w w' := by
 obtain ⟨tb, htb⟩ : ∃ n, w.heap.size = n := ⟨_, rfl⟩
 obtain ⟨W1, hW1⟩ : ∃ W, w.alloc (.cells #[.slice none 0 0, .slice none 0 0] 60) = W := ⟨_, rfl⟩
 have K1 := Lib.hid (show Kept (fun _ => False) w W1 by rw [← hW1]; exact (Kept.refl _ w).alloc _)
 have T1 := Lib.hid (show W1.ownsRow tb 60 2 (.slice (some ⟨tb, 0, none⟩) 1 1) 1 [.slice none 0 0, .slice none 0 0] by rw [← hW1, ← htb]; exact tree_new w)
 have S1 := Lib.hid (show W1.heap.size = tb + 1 by rw [← hW1, ← htb]; exact Array.size_push _)
 have HTB := Lib.hid htb
 have HV := Lib.hid h
 clear h
 obtain ⟨i39, hi39, z39, s39, b39⟩ := info_parts inf39
 go_enter Try.func44, Try.ntmps44
 go_wp2_with fail
 clear hW1 htb
 refine (of_any W1 v L (HV.out.keptF K1.out) hl).mono ?_
 rintro e w1 ⟨wb, rfl, wd, k1⟩
 obtain ⟨R, hR⟩ : ∃ R, cntF L = R := ⟨_, rfl⟩
 rw [hR] at wd
 have hrl : R.length ≤ 1000 := by rw [← hR]; have := cntF_len L; omega
 obtain ⟨b, hb⟩ : ∃ b, W1.heap.size = b := ⟨_, rfl⟩
 rw [hb] at wd
 have HRR := Lib.hid hR; have HB := Lib.hid hb; have WD1 := Lib.hid wd; have K2 := Lib.hid k1
 obtain ⟨_, ⟨v0, c0, rv0⟩, ⟨gd, hgd, c2, fd⟩, _⟩ := wd
 obtain ⟨ao, cap, rfl, rdb⟩ := rv0
 obtain ⟨n, hn⟩ : ∃ n, R.length = n := ⟨_, rfl⟩
 have HN := Lib.hid hn
 have hnl : n ≤ 1000 := by omega
 rw [hn] at c0 c2 fd
 have b1 := World.block_lt_of_cell? _ _ c0
 simp only at b1
 have C0 := Lib.hid c0; have C2 := Lib.hid c2; have FD := Lib.hid fd; have RDB := Lib.hid rdb; have HGD := Lib.hid hgd
 clear c2 fd rdb hgd hR hb hn k1
 go_wp2_with (refine wpList_store1 (by rfl) 110 _ _ (by rfl) (w1.heap.size + 1) 0 (.func (.func 56) #[] #[.pointer (some ⟨w1.heap.size, 0, none⟩), .pointer (some ⟨w1.heap.size + 1, 0, none⟩)]) (by rfl) (by rfl) (by rw [own_cell (pre2 w1 wb) rfl]; rfl) ((pre2 w1 wb).frozenAt _) sz48 rfl rfl ?_; intro w2 hW; have ld := laid2 w1 w2 wb hW; obtain ⟨bw, hbw⟩ : ∃ r, w1.heap.size = r := ⟨_, rfl⟩; obtain ⟨bn, hbn⟩ : ∃ r, bw + 1 = r := ⟨_, rfl⟩; rw [hbw, hbn] at ld ⊢; have LD := Lib.hid ld; have d0 := ld.kept.cell c0 (fun f => f); have d1 := ld.cb; clear hW ld hbw hbn c0 b1)
 clear d0 d1
 obtain ⟨b0, hb0⟩ : ∃ b, w2.heap.size = b := ⟨_, rfl⟩
 have B2 := Lib.hid hb0
 clear hb0
 have NUM := Lib.hid (show w.heap.size = tb ∧ b = tb + 1 ∧ tb < b0 ∧ bn < b0 ∧ bw < b0 ∧ tb < bw ∧ b ≤ w1.heap.size from by
  have h1 := HTB.out; have h2 := S1.out; have h3 := HB.out; have h4 := K2.out.size; have h5 := LD.out.new; have h6 := LD.out.next; have h7 := LD.out.size; have h8 := B2.out
  omega)
 have TB := Lib.hid NUM.out.2.2.1
 have BN := Lib.hid NUM.out.2.2.2.1
 have TO0 := Lib.hid (own_keptS (own_keptS T1.out K2.out (fun _ _ f => f)) LD.out.kept (fun _ _ f => f))
 go_loopg [15] n (fun ghv s wr => ∃ (j : Nat) (rv ov : Value) (lr lo : List NR) (A : Nat → Prop), j + ghv = n ∧ s = .int .i64 j ∧ wr.ownsRow tb 60 2 (.slice (some ⟨tb, 0, none⟩) 1 1) 1 [rv, ov] ∧ Grown b0 A wr rv lr ∧ Grown b0 A wr ov lo ∧ (∀ k, rv.ownBlock = some k → ov.ownBlock ≠ some k) ∧ (∀ k, A k → k < wr.heap.size) ∧ lr.length ≤ j ∧ lo.length ≤ j ∧ frN lr = forF (subF R (R.length + 1)) R (rootsL R j) ∧ frN lo = forF (subF R (R.length + 1)) R (orphL R j) ∧ Kept (fun k => k = tb) w2 wr)
 case atStart => exact ⟨0, .slice none 0 0, .slice none 0 0, [], [], fun _ => False, by omega, by go_num, TO0.out, Grown.nil _ _ _, Grown.nil _ _ _, fun _ h => (by cases h), fun _ f => f.elim, Nat.le_refl _, Nat.le_refl _, rfl, rfl, Kept.refl _ _⟩
 case round =>
  obtain ⟨j, rv, ov, lr, lo, A, hg1, rfl, hto, hgr, hgo, hap, hA, hlr, hlo, hfr, hfo, hk⟩ := hrel
  have G1 := Lib.hid hg1; have TOr := Lib.hid hto; have GRRr := Lib.hid hgr; have GROr := Lib.hid hgo; have AP := Lib.hid hap; have HAr := Lib.hid hA; have LR := Lib.hid hlr; have LO := Lib.hid hlo; have FRR := Lib.hid hfr; have FRO := Lib.hid hfo; have KKr := Lib.hid hk
  clear hg1 hto hgr hgo hap hA hlr hlo hfr hfo hk
  by_cases hjn : j < n
  ·have j0 : (j : Int) < (n : Int) := by omega
   have j1 : (0 : Int) ≤ (j : Int) := by omega
   have e1 : IntKind.i64.wrap ((j : Int) + 1) = ((j + 1 : Nat) : Int) := IntWalk.i64_in _ (by omega)
   have hjl : j < R.length := by rw [HN.out]; exact hjn
   have HJL := Lib.hid hjl
   have OLDr := Lib.hid (show ∀ a u, w1.cell? a = some u → a.block ≠ tb → wr.cell? a = some u from fun a u h hne => KKr.out.cell (LD.out.kept.cell h (fun f => f)) hne)
   obtain ⟨g, o, rfl, hgb, hc⟩ : ∃ g o, ao = some ⟨g, o, none⟩ ∧ b ≤ g ∧ ∀ j u, (cellsS R)[j]? = some u → w1.cell? ⟨g, o + j, none⟩ = some u := by
    rcases RDB.out with h | h
    ·subst h; simp at hjl
    ·exact h
   obtain ⟨y, hy⟩ : ∃ y, nth R j = y := ⟨_, rfl⟩
   have gy := nth_get hjl
   rw [hy] at gy
   have ry := ReadsS.range (fun j u hu => OLDr.out _ _ (hc j u hu) (by have := NUM.out; simp only; omega)) gy
   have HY := Lib.hid hy
   clear hy gy hc hjl hgb
   have FDJ := Lib.hid (FD.out j hjn)
   cases hh : hdF R j with
   | true =>
    rw [hh] at FDJ
    have HH := Lib.hid hh
    clear hh
    go_wp2_with (first | (refine wpList_load_mid (by rfl) 37 _ (by rfl) g (o + j * 8) (by rfl) y.cells _ ry Try.underlying37 rfl info24 ?_) | (refine wpList_store_letter (by rfl) 37 _ _ (by rfl) wr.heap.size 0 y.cells.toArray (by rfl) (by rfl) (own_there (copy_own wr) (i := 0) (by simp)) info24 (cells_all y) ?_; intro W hW; obtain ⟨sb, cpd⟩ := copied wr W y hW; have CP := Lib.hid cpd; have hnew := cpd.new; rw [hnew] at *; clear cpd hW hnew; have d0 := CP.out.kept.cell (OLDr.out _ _ C2.out (by have h1 := NUM.out; have h2 := WD1.out.new; simp only; omega)) (fun f => f); have d1 := CP.out.kept.cell (OLDr.out _ _ FDJ.out (by have h1 := NUM.out; have h2 := HGD.out; simp only; omega)) (fun f => f); have d3 := CP.out.at_ 2 _ rfl; have d2 := CP.out.kept.cell (KKr.out.cell LD.out.cb (by have h1 := NUM.out; simp only; omega)) (fun f => f)))
    have TO := Lib.hid (own_keptS TOr.out CP.out.kept (fun _ _ f => f))
    have GRR := Lib.hid (GRRr.out.keep CP.out.kept (fun _ _ f => f.elim))
    have GRO := Lib.hid (GROr.out.keep CP.out.kept (fun _ _ f => f.elim))
    have HA := Lib.hid (show ∀ k, A k → k < W.heap.size from fun k h => by have h1 := HAr.out k h; have h2 := CP.out.kept.size; omega)
    have KK := Lib.hid (KKr.out.trans CP.out.kept (fun _ _ h => h) (fun _ _ f => f.elim) : Kept (fun k => k = tb) w2 W)
    have CB := Lib.hid (CP.out.kept.cell (KKr.out.cell LD.out.cb (by have h1 := NUM.out; simp only; omega)) (fun f => f))
    have CN := Lib.hid (CP.out.kept.cell (KKr.out.cell LD.out.cn (by have h1 := NUM.out; have h2 := LD.out.next; simp only; omega)) (fun f => f))
    have B0 := Lib.hid (show b0 ≤ W.heap.size from by have h1 := B2.out; have h2 := KK.out.size; omega)
    have WD := Lib.hid (((WD1.out.kept LD.out.kept).keptT KK.out (fun k e => by have := NUM.out; omega)))
    have hjl := HJL.out
    have SS := Lib.hid (show ∀ w', Kept (fun _ => False) W w' → w'.cell? ⟨tb, 1, none⟩ = some ov ∧ w'.cell? ⟨bn, 0, none⟩ = some (.func (.func 56) #[] #[.pointer (some ⟨bw, 0, none⟩), .pointer (some ⟨bn, 0, none⟩)]) from fun w' k => ⟨k.cell (own_cellN TO.out (i := 1) rfl) (fun f => f), k.cell CN.out (fun f => f)⟩)
    have hkvs : ∃ a' c', ov = .slice a' lo.length c' := by
     rcases row_form GRO.out.row with ⟨q1, q2⟩ | ⟨g', c', q1, _⟩
     ·exact ⟨none, 0, by rw [q1, q2]⟩
     ·exact ⟨_, _, q1⟩
    refine wp_region_last 8 (fun w' => w'.cell? ⟨tb, 1, none⟩ = some ov ∧ w'.cell? ⟨bn, 0, none⟩ = some (.func (.func 56) #[] #[.pointer (some ⟨bw, 0, none⟩), .pointer (some ⟨bn, 0, none⟩)])) (by kernel_rfl) ?_
    have k0 := (Kept.refl (fun _ => False) W).drew
    have hHeld := SS.out _ k0
    simp only [List.size_toArray, List.length_cons, List.length_nil, Nat.zero_add, Nat.reduceAdd]
    refine tF (v := ?_) 0 opAt0 ?_ hHeld ?_
    case refine_2 => (intro w hSw; (try dsimp only at hSw); go_simp; all_goals (with_reducible rfl))
    (try simp only [Act.put]); try simp only [z2, List.set]
    refine tF (v := ?_) 1 opAt1 ?_ hHeld ?_
    case refine_2 => (intro w hSw; (try dsimp only at hSw); go_simp; all_goals (with_reducible rfl))
    (try simp only [Act.put]); try simp only [z2, List.set]
    refine tF (v := ?_) 2 opAt2 ?_ hHeld ?_
    case refine_2 => (intro w hSw; (try dsimp only at hSw); go_simp; all_goals (with_reducible rfl))
    (try simp only [Act.put]); try simp only [z2, List.set]
    refine tF (v := ?_) 3 opAt3 ?_ hHeld ?_
    case refine_2 => (intro w hSw; (try dsimp only at hSw); go_simp; all_goals (with_reducible rfl))
    (try simp only [Act.put]); try simp only [z2, List.set]
    refine next1 4 (by kernel_rfl) opAt4 fun K' hK => ?_
    go_simp
    go_at_call 56
    refine (node_any R hrl (R.length + 1) _ b j bw bn wb (low_all R hjl) hjl (k0.cell CB.out (fun f => f)) hHeld.2 (WD.out.kept k0)).mono ?_
    rintro e w5 ⟨v5, rfl, rv5, k5⟩
    obtain ⟨a5, c5, ev, _⟩ := id rv5
    obtain ⟨n5, hn5⟩ : ∃ n, (subF R (R.length + 1) j).len = n := ⟨_, rfl⟩
    rw [hn5] at ev
    subst ev
    clear hn5
    rw [HY.out, nodeVal]
    have K5 := Lib.hid (keptFF k0 k5)
    have RV := Lib.hid rv5
    clear k5 rv5
    dsimp only
    have hHeld := SS.out _ K5.out
    refine hK _ _ ⟨fun _ => hHeld, ?_⟩
    clear hK K'
    (try simp only [Act.put]); try simp only [z2, List.set]
    refine next1 5 (by kernel_rfl) opAt5 fun K' hK => ?_
    go_simp
    have hHeld := SS.out (w5.alloc (.cells (y.cells ++ [Value.slice a5 n5 c5]).toArray 93)) (K5.out.alloc _)
    refine hK _ _ ⟨fun _ => hHeld, ?_⟩
    clear hK K'
    (try simp only [Act.put]); try simp only [z2, List.set]
    refine next1 6 (by kernel_rfl) opAt6 fun K' hK => ?_
    refine step_app (by rfl) _ _ 58 (by rfl) b0 93 i39 _ 9 112 Try.underlying58 hi39 z39 s39 b39 (by rfl) (by decide) ov lo.length _ (by rfl) ((own_keptS GRO.out.row K5.out (fun _ _ f => f)).alloc _) ⟨_, 0, none⟩ 1 1 (y.cells ++ [Value.slice a5 n5 c5]) (by rfl) (by rfl) ?_ ?_ ?_ ?_ ?_ ?_
    ·exact World.news_of_block (heap_alloc_new _ _)
    ·intro u hu; simp [Spn.cells] at hu; rcases hu with rfl | rfl | rfl | rfl | rfl | rfl | rfl | rfl | rfl <;> rfl
    ·have := LO.out; unfold maxLen; omega
    ·have := LO.out; omega
    ·have h1 := B0.out; have h3 := K5.out.size; simp; omega
    intro ao' cap' w6 hown hgr hat
    have KV := Lib.hid (((Kept.refl (fun _ => False) w5).alloc _).trans (grown_kept hgr) (fun _ _ f => f.elim) (fun _ _ h => h) : Kept (fun k => ov.ownBlock = some k) w5 w6)
    have HAT := Lib.hid (show (Value.slice ao' (lo.length + 1) cap').ownBlock = ov.ownBlock ∨ ∃ b, (Value.slice ao' (lo.length + 1) cap').ownBlock = some b ∧ w5.heap.size ≤ b from hat.imp id (fun e => ⟨_, e, by simp⟩))
    have G2 := Lib.hid (GRO.out.push HA.out B0.out K5.out RV.out KV.out hown HAT.out)
    have GO2 := Lib.hid (GRR.out.beside (nv := .slice ao' (lo.length + 1) cap') K5.out KV.out (fun k hk => ⟨GRO.out.own k hk, fun e => AP.out k e hk⟩) HAT.out)
    have SZ := Lib.hid (show ∀ k, (A k ∨ (Value.slice ao' (lo.length + 1) cap').ownBlock = some k) → k < w6.heap.size from fun k hk => hk.elim (fun h => by have h1 := HA.out k h; have h2 := K5.out.size; have h3 := KV.out.size; omega) (fun h => (own_lt hown h).2))
    have AP2 := Lib.hid (show ∀ k, rv.ownBlock = some k → (Value.slice ao' (lo.length + 1) cap').ownBlock ≠ some k from fun k hk e => HAT.out.elim (fun h => AP.out k hk (h ▸ e)) (fun ⟨b', h, hb⟩ => by have h1 := own_lt GRR.out.row hk; have h2 := K5.out.size; rw [h] at e; cases e; omega))
    clear hown hgr hat
    have hHeld := (⟨KV.out.cell (SS.out _ K5.out).1 (fun e => by have h1 := own_lt GRO.out.row e; have h2 := TB.out; simp only at h1; omega), KV.out.cell (SS.out _ K5.out).2 (fun e => by have h1 := own_lt GRO.out.row e; have h2 := BN.out; simp only at h1; omega)⟩ : w6.cell? ⟨tb, 1, none⟩ = some ov ∧ w6.cell? ⟨bn, 0, none⟩ = some (.func (.func 56) #[] #[.pointer (some ⟨bw, 0, none⟩), .pointer (some ⟨bn, 0, none⟩)]))
    refine hK _ _ ⟨fun _ => hHeld, ?_⟩
    clear hK K'
    (try simp only [Act.put]); try simp only [z2, List.set]
    refine tF (v := ?_) 7 opAt7 ?_ hHeld ?_
    case refine_2 => (intro w hSw; (try dsimp only at hSw); go_simp; all_goals (with_reducible rfl))
    (try simp only [Act.put]); try simp only [z2, List.set]
    refine next1 8 (by kernel_rfl) opAt8 fun K' hK => ?_
    have TO6 := Lib.hid (own_keptS (own_keptS TO.out K5.out (fun _ _ f => f)) KV.out (fun b hb e => by have h1 := own_lt GRO.out.row e; have h2 := TB.out; cases hb; simp only at h1; omega))
    refine step_store1 (by rfl) 58 _ _ (by rfl) tb 1 (.slice ao' (lo.length + 1) cap') (by rfl) (by rfl) (by rw [hHeld.1]; rfl) (TO6.out.frozenAt _) sz26 rfl rfl ?_
    intro W2 hW2
    have TO2 := Lib.hid (show W2.ownsRow tb 60 2 (.slice (some ⟨tb, 0, none⟩) 1 1) 1 [rv, .slice ao' (lo.length + 1) cap'] from by rw [hW2]; exact own_putN TO6.out 1 _)
    have KP := Lib.hid (show Kept (fun k => k = tb) w6 W2 from by rw [hW2]; exact kept_put w6 tb 1 _)
    have G3 := Lib.hid (G2.out.keep KP.out (fun k _ e => by have := TB.out; omega))
    have GO3 := Lib.hid (GO2.out.keep KP.out (fun k _ e => by have := TB.out; omega))
    have KK2 := Lib.hid (((KK.out.trans K5.out (fun _ _ h => h) (fun _ _ f => f.elim) : Kept (fun k => k = tb) w2 w5).trans KV.out (fun _ _ h => h) (fun k h1 h2 => by have h3 := own_lt GRO.out.row h2; have h4 := B2.out; omega) : Kept (fun k => k = tb) w2 w6).trans KP.out (fun _ _ h => h) (fun _ _ h => h) : Kept (fun k => k = tb) w2 W2)
    clear hW2
    refine hK _ _ ⟨fun h => absurd rfl h, ?_⟩
    clear hK K'
    (try simp only [Act.put]); try simp only [z2, List.set]
    refine wpAnyF_done (by kernel_rfl) ?_ _
    go_wp2
    go_roundg (n - (j + 1))
    case measure => have := G1.out; omega
    case rel => exact ⟨j + 1, rv, _, lr, _, _, by omega, by go_num, TO2.out, GO3.out, G3.out, AP2.out, fun k hk => by have h1 := SZ.out k hk; have h2 := KP.out.size; omega, by have := LR.out; omega, by have := LO.out; simp; omega, by rw [rootsL_skip (.inl HH.out)]; exact FRR.out, by rw [orphL_snoc HH.out, frN_app, FRO.out, forF_app]; simp only [frN, forF, HY.out], KK2.out⟩
   | false =>
    rw [hh] at FDJ
    have HH := Lib.hid hh
    clear hh
    by_cases pz : y.pa = 0
    ·have pz1 : (y.pa == 0) = true := by simp [pz]
     have PZ := Lib.hid pz
     clear pz
     go_wp2_with (first | (refine wpList_load_mid (by rfl) 37 _ (by rfl) g (o + j * 8) (by rfl) y.cells _ ry Try.underlying37 rfl info24 ?_) | (refine wpList_store_letter (by rfl) 37 _ _ (by rfl) wr.heap.size 0 y.cells.toArray (by rfl) (by rfl) (own_there (copy_own wr) (i := 0) (by simp)) info24 (cells_all y) ?_; intro W hW; obtain ⟨sb, cpd⟩ := copied wr W y hW; have CP := Lib.hid cpd; have hnew := cpd.new; rw [hnew] at *; clear cpd hW hnew; have d0 := CP.out.kept.cell (OLDr.out _ _ C2.out (by have h1 := NUM.out; have h2 := WD1.out.new; simp only; omega)) (fun f => f); have d1 := CP.out.kept.cell (OLDr.out _ _ FDJ.out (by have h1 := NUM.out; have h2 := HGD.out; simp only; omega)) (fun f => f); have d3 := CP.out.at_ 2 _ rfl; have d2 := CP.out.kept.cell (KKr.out.cell LD.out.cb (by have h1 := NUM.out; simp only; omega)) (fun f => f)))
     have TO := Lib.hid (own_keptS TOr.out CP.out.kept (fun _ _ f => f))
     have GRR := Lib.hid (GRRr.out.keep CP.out.kept (fun _ _ f => f.elim))
     have GRO := Lib.hid (GROr.out.keep CP.out.kept (fun _ _ f => f.elim))
     have HA := Lib.hid (show ∀ k, A k → k < W.heap.size from fun k h => by have h1 := HAr.out k h; have h2 := CP.out.kept.size; omega)
     have KK := Lib.hid (KKr.out.trans CP.out.kept (fun _ _ h => h) (fun _ _ f => f.elim) : Kept (fun k => k = tb) w2 W)
     have CB := Lib.hid (CP.out.kept.cell (KKr.out.cell LD.out.cb (by have h1 := NUM.out; simp only; omega)) (fun f => f))
     have CN := Lib.hid (CP.out.kept.cell (KKr.out.cell LD.out.cn (by have h1 := NUM.out; have h2 := LD.out.next; simp only; omega)) (fun f => f))
     have B0 := Lib.hid (show b0 ≤ W.heap.size from by have h1 := B2.out; have h2 := KK.out.size; omega)
     have WD := Lib.hid (((WD1.out.kept LD.out.kept).keptT KK.out (fun k e => by have := NUM.out; omega)))
     have hjl := HJL.out
     have SS := Lib.hid (show ∀ w', Kept (fun _ => False) W w' → w'.cell? ⟨tb, 0, none⟩ = some rv ∧ w'.cell? ⟨bn, 0, none⟩ = some (.func (.func 56) #[] #[.pointer (some ⟨bw, 0, none⟩), .pointer (some ⟨bn, 0, none⟩)]) from fun w' k => ⟨k.cell (own_cellN TO.out (i := 0) rfl) (fun f => f), k.cell CN.out (fun f => f)⟩)
     have hkvs : ∃ a' c', rv = .slice a' lr.length c' := by
      rcases row_form GRR.out.row with ⟨q1, q2⟩ | ⟨g', c', q1, _⟩
      ·exact ⟨none, 0, by rw [q1, q2]⟩
      ·exact ⟨_, _, q1⟩
     refine wp_region_last 8 (fun w' => w'.cell? ⟨tb, 0, none⟩ = some rv ∧ w'.cell? ⟨bn, 0, none⟩ = some (.func (.func 56) #[] #[.pointer (some ⟨bw, 0, none⟩), .pointer (some ⟨bn, 0, none⟩)])) (by kernel_rfl) ?_
     have k0 := (Kept.refl (fun _ => False) W).drew
     have hHeld := SS.out _ k0
     simp only [List.size_toArray, List.length_cons, List.length_nil, Nat.zero_add, Nat.reduceAdd]
     refine tF (v := ?_) 0 opAt0 ?_ hHeld ?_
     case refine_2 => (intro w hSw; (try dsimp only at hSw); go_simp; all_goals (with_reducible rfl))
     (try simp only [Act.put]); try simp only [z2, List.set]
     refine tF (v := ?_) 1 opAt1 ?_ hHeld ?_
     case refine_2 => (intro w hSw; (try dsimp only at hSw); go_simp; all_goals (with_reducible rfl))
     (try simp only [Act.put]); try simp only [z2, List.set]
     refine tF (v := ?_) 2 opAt2 ?_ hHeld ?_
     case refine_2 => (intro w hSw; (try dsimp only at hSw); go_simp; all_goals (with_reducible rfl))
     (try simp only [Act.put]); try simp only [z2, List.set]
     refine tF (v := ?_) 3 opAt3 ?_ hHeld ?_
     case refine_2 => (intro w hSw; (try dsimp only at hSw); go_simp; all_goals (with_reducible rfl))
     (try simp only [Act.put]); try simp only [z2, List.set]
     refine next1 4 (by kernel_rfl) opAt4 fun K' hK => ?_
     go_simp
     go_at_call 56
     refine (node_any R hrl (R.length + 1) _ b j bw bn wb (low_all R hjl) hjl (k0.cell CB.out (fun f => f)) hHeld.2 (WD.out.kept k0)).mono ?_
     rintro e w5 ⟨v5, rfl, rv5, k5⟩
     obtain ⟨a5, c5, ev, _⟩ := id rv5
     obtain ⟨n5, hn5⟩ : ∃ n, (subF R (R.length + 1) j).len = n := ⟨_, rfl⟩
     rw [hn5] at ev
     subst ev
     clear hn5
     rw [HY.out, nodeVal]
     have K5 := Lib.hid (keptFF k0 k5)
     have RV := Lib.hid rv5
     clear k5 rv5
     dsimp only
     have hHeld := SS.out _ K5.out
     refine hK _ _ ⟨fun _ => hHeld, ?_⟩
     clear hK K'
     (try simp only [Act.put]); try simp only [z2, List.set]
     refine next1 5 (by kernel_rfl) opAt5 fun K' hK => ?_
     go_simp
     have hHeld := SS.out (w5.alloc (.cells (y.cells ++ [Value.slice a5 n5 c5]).toArray 93)) (K5.out.alloc _)
     refine hK _ _ ⟨fun _ => hHeld, ?_⟩
     clear hK K'
     (try simp only [Act.put]); try simp only [z2, List.set]
     refine next1 6 (by kernel_rfl) opAt6 fun K' hK => ?_
     refine step_app (by rfl) _ _ 58 (by rfl) b0 93 i39 _ 9 112 Try.underlying58 hi39 z39 s39 b39 (by rfl) (by decide) rv lr.length _ (by rfl) ((own_keptS GRR.out.row K5.out (fun _ _ f => f)).alloc _) ⟨_, 0, none⟩ 1 1 (y.cells ++ [Value.slice a5 n5 c5]) (by rfl) (by rfl) ?_ ?_ ?_ ?_ ?_ ?_
     ·exact World.news_of_block (heap_alloc_new _ _)
     ·intro u hu; simp [Spn.cells] at hu; rcases hu with rfl | rfl | rfl | rfl | rfl | rfl | rfl | rfl | rfl <;> rfl
     ·have := LR.out; unfold maxLen; omega
     ·have := LR.out; omega
     ·have h1 := B0.out; have h3 := K5.out.size; simp; omega
     intro ao' cap' w6 hown hgr hat
     have KV := Lib.hid (((Kept.refl (fun _ => False) w5).alloc _).trans (grown_kept hgr) (fun _ _ f => f.elim) (fun _ _ h => h) : Kept (fun k => rv.ownBlock = some k) w5 w6)
     have HAT := Lib.hid (show (Value.slice ao' (lr.length + 1) cap').ownBlock = rv.ownBlock ∨ ∃ b, (Value.slice ao' (lr.length + 1) cap').ownBlock = some b ∧ w5.heap.size ≤ b from hat.imp id (fun e => ⟨_, e, by simp⟩))
     have G2 := Lib.hid (GRR.out.push HA.out B0.out K5.out RV.out KV.out hown HAT.out)
     have GO2 := Lib.hid (GRO.out.beside (nv := .slice ao' (lr.length + 1) cap') K5.out KV.out (fun k hk => ⟨GRR.out.own k hk, fun e => AP.out k hk e⟩) HAT.out)
     have SZ := Lib.hid (show ∀ k, (A k ∨ (Value.slice ao' (lr.length + 1) cap').ownBlock = some k) → k < w6.heap.size from fun k hk => hk.elim (fun h => by have h1 := HA.out k h; have h2 := K5.out.size; have h3 := KV.out.size; omega) (fun h => (own_lt hown h).2))
     have AP2 := Lib.hid (show ∀ k, ov.ownBlock = some k → (Value.slice ao' (lr.length + 1) cap').ownBlock ≠ some k from fun k hk e => HAT.out.elim (fun h => AP.out k (h ▸ e) hk) (fun ⟨b', h, hb⟩ => by have h1 := own_lt GRO.out.row hk; have h2 := K5.out.size; rw [h] at e; cases e; omega))
     clear hown hgr hat
     have hHeld := (⟨KV.out.cell (SS.out _ K5.out).1 (fun e => by have h1 := own_lt GRR.out.row e; have h2 := TB.out; simp only at h1; omega), KV.out.cell (SS.out _ K5.out).2 (fun e => by have h1 := own_lt GRR.out.row e; have h2 := BN.out; simp only at h1; omega)⟩ : w6.cell? ⟨tb, 0, none⟩ = some rv ∧ w6.cell? ⟨bn, 0, none⟩ = some (.func (.func 56) #[] #[.pointer (some ⟨bw, 0, none⟩), .pointer (some ⟨bn, 0, none⟩)]))
     refine hK _ _ ⟨fun _ => hHeld, ?_⟩
     clear hK K'
     (try simp only [Act.put]); try simp only [z2, List.set]
     refine tF (v := ?_) 7 opAt7 ?_ hHeld ?_
     case refine_2 => (intro w hSw; (try dsimp only at hSw); go_simp; all_goals (with_reducible rfl))
     (try simp only [Act.put]); try simp only [z2, List.set]
     refine next1 8 (by kernel_rfl) opAt8 fun K' hK => ?_
     have TO6 := Lib.hid (own_keptS (own_keptS TO.out K5.out (fun _ _ f => f)) KV.out (fun b hb e => by have h1 := own_lt GRR.out.row e; have h2 := TB.out; cases hb; simp only at h1; omega))
     refine step_store1 (by rfl) 58 _ _ (by rfl) tb 0 (.slice ao' (lr.length + 1) cap') (by rfl) (by rfl) (by rw [hHeld.1]; rfl) (TO6.out.frozenAt _) sz26 rfl rfl ?_
     intro W2 hW2
     have TO2 := Lib.hid (show W2.ownsRow tb 60 2 (.slice (some ⟨tb, 0, none⟩) 1 1) 1 [.slice ao' (lr.length + 1) cap', ov] from by rw [hW2]; exact own_putN TO6.out 0 _)
     have KP := Lib.hid (show Kept (fun k => k = tb) w6 W2 from by rw [hW2]; exact kept_put w6 tb 0 _)
     have G3 := Lib.hid (G2.out.keep KP.out (fun k _ e => by have := TB.out; omega))
     have GO3 := Lib.hid (GO2.out.keep KP.out (fun k _ e => by have := TB.out; omega))
     have KK2 := Lib.hid (((KK.out.trans K5.out (fun _ _ h => h) (fun _ _ f => f.elim) : Kept (fun k => k = tb) w2 w5).trans KV.out (fun _ _ h => h) (fun k h1 h2 => by have h3 := own_lt GRR.out.row h2; have h4 := B2.out; omega) : Kept (fun k => k = tb) w2 w6).trans KP.out (fun _ _ h => h) (fun _ _ h => h) : Kept (fun k => k = tb) w2 W2)
     clear hW2
     refine hK _ _ ⟨fun h => absurd rfl h, ?_⟩
     clear hK K'
     (try simp only [Act.put]); try simp only [z2, List.set]
     refine wpAnyF_done (by kernel_rfl) ?_ _
     go_wp2
     go_roundg (n - (j + 1))
     case measure => have := G1.out; omega
     case rel => exact ⟨j + 1, _, ov, _, lo, _, by omega, by go_num, TO2.out, G3.out, GO3.out, fun k h1 h2 => AP2.out k h2 h1, fun k hk => by have h1 := SZ.out k hk; have h2 := KP.out.size; omega, by have := LR.out; simp; omega, by have := LO.out; omega, by rw [rootsL_snoc HH.out (by rw [HY.out]; exact PZ.out), frN_app, FRR.out, forF_app]; simp only [frN, forF, HY.out], by rw [orphL_skip HH.out]; exact FRO.out, KK2.out⟩
    ·have pz1 : (y.pa == 0) = false := by simp [pz]
     have PZ := Lib.hid pz
     clear pz
     go_wp2_with (first | (refine wpList_load_mid (by rfl) 37 _ (by rfl) g (o + j * 8) (by rfl) y.cells _ ry Try.underlying37 rfl info24 ?_) | (refine wpList_store_letter (by rfl) 37 _ _ (by rfl) wr.heap.size 0 y.cells.toArray (by rfl) (by rfl) (own_there (copy_own wr) (i := 0) (by simp)) info24 (cells_all y) ?_; intro W hW; obtain ⟨sb, cpd⟩ := copied wr W y hW; have CP := Lib.hid cpd; have hnew := cpd.new; rw [hnew] at *; clear cpd hW hnew; have d0 := CP.out.kept.cell (OLDr.out _ _ C2.out (by have h1 := NUM.out; have h2 := WD1.out.new; simp only; omega)) (fun f => f); have d1 := CP.out.kept.cell (OLDr.out _ _ FDJ.out (by have h1 := NUM.out; have h2 := HGD.out; simp only; omega)) (fun f => f); have d3 := CP.out.at_ 2 _ rfl; have d2 := CP.out.kept.cell (KKr.out.cell LD.out.cb (by have h1 := NUM.out; simp only; omega)) (fun f => f)))
     have TO := Lib.hid (own_keptS TOr.out CP.out.kept (fun _ _ f => f))
     have GRR := Lib.hid (GRRr.out.keep CP.out.kept (fun _ _ f => f.elim))
     have GRO := Lib.hid (GROr.out.keep CP.out.kept (fun _ _ f => f.elim))
     have HA := Lib.hid (show ∀ k, A k → k < W.heap.size from fun k h => by have h1 := HAr.out k h; have h2 := CP.out.kept.size; omega)
     have KK := Lib.hid (KKr.out.trans CP.out.kept (fun _ _ h => h) (fun _ _ f => f.elim) : Kept (fun k => k = tb) w2 W)
     have CB := Lib.hid (CP.out.kept.cell (KKr.out.cell LD.out.cb (by have h1 := NUM.out; simp only; omega)) (fun f => f))
     have CN := Lib.hid (CP.out.kept.cell (KKr.out.cell LD.out.cn (by have h1 := NUM.out; have h2 := LD.out.next; simp only; omega)) (fun f => f))
     have B0 := Lib.hid (show b0 ≤ W.heap.size from by have h1 := B2.out; have h2 := KK.out.size; omega)
     have WD := Lib.hid (((WD1.out.kept LD.out.kept).keptT KK.out (fun k e => by have := NUM.out; omega)))
     have hjl := HJL.out
     go_roundg (n - (j + 1))
     case measure => have := G1.out; omega
     case rel => exact ⟨j + 1, rv, ov, lr, lo, A, by omega, by go_num, TO.out, GRR.out, GRO.out, AP.out, HA.out, by have := LR.out; omega, by have := LO.out; omega, by rw [rootsL_skip (.inr (by rw [HY.out]; exact PZ.out))]; exact FRR.out, by rw [orphL_skip HH.out]; exact FRO.out, KK.out⟩
  ·have j0 : ¬ (j : Int) < (n : Int) := by omega
   have E1 := Lib.hid (show j = n from by have := G1.out; omega)
   obtain ⟨ra, rn, rc, hrv⟩ : ∃ a n c, rv = .slice a n c := by
    rcases row_form GRRr.out.row with ⟨q1, q2⟩ | ⟨g', c', q1, _⟩
    ·exact ⟨_, _, _, q1⟩
    ·exact ⟨_, _, _, q1⟩
   obtain ⟨oa, on, oc, hov⟩ : ∃ a n c, ov = .slice a n c := by
    rcases row_form GROr.out.row with ⟨q1, q2⟩ | ⟨g', c', q1, _⟩
    ·exact ⟨_, _, _, q1⟩
    ·exact ⟨_, _, _, q1⟩
   subst hrv hov
   have x0 := own_cellN TOr.out (i := 0) rfl
   have x1 := own_cellN TOr.out (i := 1) rfl
   have f0 := TOr.out.frozenAt 0
   have f1 := TOr.out.frozenAt 1
   go_wp2
   obtain ⟨W2, hW2⟩ : ∃ W, (wr.setCell ⟨tb, 0, none⟩ (Value.slice ra rn rc)).setCell ⟨tb, 1, none⟩ (Value.slice oa on oc) = W := ⟨_, rfl⟩
   have TO2 := Lib.hid (show W2.ownsRow tb 60 2 (.slice (some ⟨tb, 0, none⟩) 1 1) 1 [Value.slice ra rn rc, Value.slice oa on oc] from by rw [← hW2]; exact own_putN (own_putN TOr.out 0 _) 1 _)
   have KP := Lib.hid (show Kept (fun k => k = tb) wr W2 from by rw [← hW2]; exact Kept.setCells (S := fun k => k = tb) (fun _ => rfl) [Value.slice ra rn rc, Value.slice oa on oc] 0 (Kept.refl _ wr))
   rw [hW2]
   clear hW2 x0 x1
   have r0 := own_cellN TO2.out (i := 0) rfl
   have r1 := own_cellN TO2.out (i := 1) rfl
   refine bodyPost_ret (v := .agg #[Value.slice ra rn rc, Value.slice oa on oc]) (by simp [results, Try.results44, go_sem, r0, r1]; try rfl) rfl ?_
   have KF := Lib.hid ((((K1.out.trans K2.out (fun _ _ f => f) (fun _ _ f => f) : Kept (fun _ => False) w w1).trans LD.out.kept (fun _ _ f => f) (fun _ _ f => f) : Kept (fun _ => False) w w2).trans KKr.out (fun _ _ f => f) (fun k h e => by have := NUM.out; omega) : Kept (fun _ => False) w wr).trans KP.out (fun _ _ f => f) (fun k h e => by have := NUM.out; omega) : Kept (fun _ => False) w W2)
   rw [HRR.out]
   refine ⟨_, _, rfl, ?_, ?_, KF.out⟩
   ·have hf : frN lr = rootsF R := by rw [FRR.out, rootsF, HN.out, E1.out]
    rw [← hf]
    exact GRRr.out.reads.keptS KP.out (fun k _ hs e => by have := NUM.out; omega) (fun k _ hs => by have := NUM.out; omega)
   ·have hf : frN lo = orphF R := by rw [FRO.out, orphF, HN.out, E1.out]
    rw [← hf]
    exact GROr.out.reads.keptS KP.out (fun k _ hs e => by have := NUM.out; omega) (fun k _ hs => by have := NUM.out; omega)
end Go.Proofs.Ytibakmchgppndaa
/- Appending a stretch of a list that may be nil. -/
namespace Go.Proofs.Ytibakmchgppndaa
open Go.RowKit

/-- What is appended: so many elements that lie somewhere, or none of a nil slice. -/
def Src (w : World) (x : Value) (m : Nat) (news : List Value) : Prop := ∃ xa c, x = .slice xa m c ∧ ((xa = none ∧ m = 0 ∧ news = []) ∨ ∃ ad, xa = some ad ∧ ∀ j u, news[j]? = some u → w.cell? (ad.add j) = some u)
theorem Src.kept {w w' : World} {x : Value} {m : Nat} {news : List Value} (h : Src w x m news) (K : Kept (fun _ => False) w w') : Src w' x m news := by
 obtain ⟨xa, c, e, h⟩ := h
 exact ⟨xa, c, e, h.imp id (fun ⟨ad, e2, hc⟩ => ⟨ad, e2, fun j u hu => K.cell (hc j u hu) (fun f => f)⟩)⟩
theorem run_append_none {P : Program} (w : World) (t ty e : TypeId) (i : TypeInfo) (ht : P.underlying t = some (.slice e)) (hi : P.info? e = some i) (b : Option Addr) (n c c' : Nat) (hnc : n ≤ c) :
  (Builtin.append_ #[t, t] ty #[.slice b n c, .slice none 0 c']).run P w = .ok (.slice b n c) w := by
 cases b <;> simp [Builtin.append_, underlying, sizeOf, typeInfo, ht, hi, Builtin.lenOf, hnc, Builtin.firstCells, storeCells, go_sem]
theorem step_appG {P : Program} {ops : Array Oper} {o : Oper} {a : Act} {w : World} {K : Act → World → Prop} {Q : Exit → Act → World → Prop} {E : Prop} (hgd : o.guard = none) (s x : Operand) (t : TypeId)
  (ho : o.op = .call { callee := .builtin .append, args := #[s, x], argTypes := #[t, t] })
  (base : Nat) (e : TypeId) (i : TypeInfo) (z : Value) (size bytes : Nat) (ht : P.underlying t = some (.slice e)) (hi : P.info? e = some i) (hz : i.zero = some z)
  (hsize : i.size = size) (hby : i.bytes = bytes) (hzs : z.cells.size = size) (hsz : 0 < size)
  (v : Value) (n : Nat) (xs : List Value) (hs : a.eval s = v) (hown : w.ownsRow base e size v n xs)
  (m : Nat) (news : List Value) (xv : Value) (hxv : a.eval x = xv) (hx : Src w xv m news) (hl : news.length = m * size) (h1 : ∀ u ∈ news, u.oneCell' = true)
  (h63 : n + m ≤ maxLen) (hbytes : (n + m) * bytes ≤ 140737488355328) (hbase : base ≤ w.heap.size)
  (h : ∀ ao' cap' w', w'.ownsRow base e size (.slice ao' (n + m) cap') (n + m) (xs ++ news) → Kept (fun k => v.ownBlock = some k) w w' → ((Value.slice ao' (n + m) cap').ownBlock = v.ownBlock ∨ (Value.slice ao' (n + m) cap').ownBlock = some w.heap.size) → K (a.put o.dst (.slice ao' (n + m) cap')) w') :
  if Region.wanted o (yielded ops a.tmps) = true then Oper.wp P o a w K Q else E := by
 obtain ⟨xa, c, ex, hc⟩ := hx
 rw [← hxv] at ex
 rcases hc with ⟨rfl, rfl, rfl⟩ | ⟨ad, rfl, hnews⟩
 ·rw [if_pos (by simp [Region.wanted, hgd])]
  have hf : ∃ b c', v = .slice b n c' ∧ n ≤ c' := by
   rcases row_form hown with ⟨e1, e2⟩ | ⟨g, c', e1, hle, _⟩
   ·exact ⟨none, 0, by rw [e1, e2], by omega⟩
   ·exact ⟨_, c', e1, hle⟩
  obtain ⟨b, c', rfl, hle⟩ := hf
  unfold Oper.wp execOp
  simp only [ho, resolve, invoke, builtin, Sem.run_bind, Sem.run_pure, Result.andThen_ok, List.map_toArray, List.map_cons, List.map_nil, hs, ex, run_append_none w t o.type e i ht hi b n c' c hle]
  exact h b c' w (by rw [List.append_nil]; exact hown) (Kept.refl _ w) (.inl rfl)
 ·exact step_app hgd s x t ho base e i z size bytes ht hi hz hsize hby hzs hsz v n xs hs hown ad m c news ex hl hnews h1 h63 hbytes hbase (fun ao' cap' w' a1 a2 a3 => h ao' cap' w' a1 ((grown_kept a2).mono (fun k _ e => e)) a3)
theorem cellsS_take : ∀ (L : List Spn) (k : Nat), cellsS (L.take k) = (cellsS L).take (k * 8)
 | [], k => by simp [cellsS]
 | x :: t, 0 => by simp [cellsS]
 | x :: t, k + 1 => by
  have h8 : x.cells.length = 8 := rfl
  rw [List.take_succ_cons, cellsS, cellsS, cellsS_take t k, List.take_append, h8, List.take_of_length_le (l := x.cells) (by omega), show (k + 1) * 8 - 8 = k * 8 by omega]
theorem cellsS_drop : ∀ (L : List Spn) (k : Nat), cellsS (L.drop k) = (cellsS L).drop (k * 8)
 | [], k => by simp [cellsS]
 | x :: t, 0 => by simp [cellsS]
 | x :: t, k + 1 => by
  have h8 : x.cells.length = 8 := rfl
  rw [List.drop_succ_cons, cellsS, cellsS_drop t k, List.drop_append, h8, List.drop_of_length_le (l := x.cells) (by omega), List.nil_append, show (k + 1) * 8 - 8 = k * 8 by omega]
/-- The list up to a place, and from there on. -/
theorem slices_of {w : World} {base : Nat} {la : Option Addr} {n cap : Nat} {L : List Spn} (h : w.ownsRow base 37 8 (.slice la n cap) n (cellsS L)) (hl : L.length = n) (k : Nat) (hk : k ≤ n) :
  ∃ X1 X2, (∀ W, (Instr.slice 27 (.slice la n cap) none (some (.int .i64 (k : Int))) none).run Try.prog W = .ok X1 W) ∧ (∀ W, (Instr.slice 27 (.slice la n cap) (some (.int .i64 (k : Int))) none none).run Try.prog W = .ok X2 W) ∧
   Src w X1 k (cellsS (L.take k)) ∧ Src w X2 (n - k) (cellsS (L.drop k)) := by
 have i1 : (0 : Int) ≤ (k : Int) := by omega
 have i2 : (k : Int) ≤ (n : Int) := by omega
 rcases row_form h with ⟨e1, e2⟩ | ⟨g, c, e1, hle, _, _, hc⟩
 ·cases e1
  obtain rfl : k = 0 := by omega
  obtain rfl := List.eq_nil_of_length_eq_zero hl
  exact ⟨.slice none 0 0, .slice none 0 0, fun W => by simp [go_sem], fun W => by simp [go_sem], ⟨none, 0, rfl, .inl ⟨rfl, rfl, rfl⟩⟩, ⟨none, 0, rfl, .inl ⟨rfl, rfl, rfl⟩⟩⟩
 ·cases e1
  have i3 : (k : Int) ≤ (cap : Int) := by omega
  refine ⟨.slice (some ⟨g, 0, none⟩) k cap, .slice (some (if cap = k then ⟨g, 0, none⟩ else ⟨g, k * 8, none⟩)) (n - k) (cap - k), fun W => by simp [go_sem, i1, i3], fun W => ?_, ⟨_, cap, rfl, .inr ⟨_, rfl, fun j u hu => ?_⟩⟩, ⟨_, cap - k, rfl, .inr ⟨_, rfl, fun j u hu => ?_⟩⟩⟩
  ·by_cases hcap : cap = k
   ·obtain rfl : n = k := by omega
    subst hcap; simp [go_sem]
   ·simp [go_sem, hcap, i1, i2]
  ·rw [cellsS_take, List.getElem?_take] at hu
   split at hu
   ·rw [add_mid, Nat.zero_add]; exact hc j u hu
   ·cases hu
  ·rw [cellsS_drop, List.getElem?_drop] at hu
   have hj := (List.getElem?_eq_some_iff.1 hu).1
   rw [cellsS_length] at hj
   rw [if_neg (by omega), add_mid]; exact hc _ u hu
end Go.Proofs.Ytibakmchgppndaa
/- slices.SortFunc at an owned row of spans: a sorted row of the same spans lies there. -/
namespace Go.Proofs.Ytibakmchgppndaa
open Go.RowKit Go.Shelf Go.Lib Go.Sort

def keyLt (x y : Spn) : Prop := x.tr < y.tr ∨ x.tr = y.tr ∧ x.id < y.id
instance (x y : Spn) : Decidable (keyLt x y) := by unfold keyLt; infer_instance
theorem lt_cmpS (x y : Spn) : ltOf cmpS x y = decide (keyLt x y) := by
 have h : cmpS x y < 0 ↔ keyLt x y := by
  unfold cmpS orI cmpI keyLt
  (repeat' split) <;> omega
 unfold ltOf
 exact decide_eq_decide.2 h
theorem swoS : SWO (ltOf cmpS) where
 irrefl x := by rw [lt_cmpS, decide_eq_false_iff_not]; unfold keyLt; omega
 trans x y z h1 h2 := by rw [lt_cmpS, decide_eq_true_eq] at h1 h2 ⊢; unfold keyLt at *; omega
 ntrans x y z h1 h2 := by rw [lt_cmpS, decide_eq_false_iff_not] at h1 h2 ⊢; unfold keyLt at *; omega
/-- No later one comes ahead of an earlier one. -/
def SortedS (L : List Spn) : Prop := L.Pairwise (fun x y => ¬ keyLt y x)
theorem sorted_of_in {d : Array Spn} (h : SortedIn (ltOf cmpS) 0 d.size d) : SortedS d.toList := by
 unfold SortedS
 rw [List.pairwise_iff_getElem]
 intro i j hi hj hij
 have := h i j (Nat.zero_le _) hij (by simpa using hj)
 rw [lt_cmpS] at this
 have hi' : i < d.size := by simpa using hi
 have hj' : j < d.size := by simpa using hj
 rw [getElem!_pos d i hi', getElem!_pos d j hj'] at this
 simpa using this
theorem perm_of_in {d d' : Array Spn} (h : PermIn 0 d.size d d') : d'.toList.Perm d.toList := by
 obtain ⟨hs, _, hp⟩ := h
 have e1 : d.extract 0 d.size = d := by simp
 have e2 : d'.extract 0 d.size = d' := by rw [← hs]; simp
 rwa [e1, e2] at hp
theorem agg37 (w : World) : (isAgg 37).run Try.prog w = .ok true w := by kernel_rfl
theorem size37 (w : World) : (Go.sizeOf 37).run Try.prog w = .ok 8 w := by kernel_rfl
theorem flat_at (d : List Spn) (j : Nat) (h : j < d.length * 8) : (cellsS d)[j]? = some (flatK Spn.cells 8 d.toArray)[j]! := by
 rw [get_flatK _ _ _ _ (by simpa using h)]
 have hq : j / 8 < d.length := by omega
 have hm : d[j / 8]? = some d[j / 8] := List.getElem?_eq_getElem hq
 have hr : j % 8 < 8 := Nat.mod_lt _ (by omega)
 have h1 := cellsS_at d (j / 8) _ hm (j % 8) hr
 rw [show j / 8 * 8 + j % 8 = j by omega] at h1
 rw [h1]
 have h2 : (d.toArray)[j / 8]! = d[j / 8] := by
  rw [getElem!_pos d.toArray (j / 8) (by simpa using hq)]; simp
 rw [h2]
 have hl : j % 8 < (d[j / 8].cells).length := hr
 rw [List.getElem?_eq_getElem hl]
 rw [getElem!_pos (d[j / 8].cells) (j % 8) hl]
theorem sort_own {w : World} {base : Nat} {v : Value} {d : List Spn} (h : w.ownsRow base 37 8 v d.length (cellsS d)) (hl : d.length < 4611686018427387904) :
  Calls Try.prog 30 #[v, .func (.func 31) #[] #[]] w fun e w' => e = .returned (.tuple #[]) ∧ Kept (fun k => v.ownBlock = some k) w w' ∧ ∃ d' : List Spn, d'.Perm d ∧ SortedS d' ∧ ReadsS w' v d' := by
 have hcells := h
 obtain ⟨hlen, h2⟩ := h
 cases d with
 | nil =>
  have hv : ∃ p c, v = .slice p 0 c := by
   rcases h2 with ⟨rfl, _⟩ | ⟨g, cap, cur, rfl, _⟩
   ·exact ⟨none, 0, rfl⟩
   ·exact ⟨_, cap, rfl⟩
  obtain ⟨p, c, rfl⟩ := hv
  have hc := AnyF.slices_SortFunc_none (P := Try.prog) Try.sortSp p c (.func (.func 31) #[] #[]) w
  change Calls Try.prog 30 _ _ _ at hc
  exact hc.mono fun e w' ⟨he, hw⟩ => by
   subst hw
   exact ⟨he, Kept.refl _ _, [], List.Perm.refl _, List.Pairwise.nil, p, c, rfl, .inl rfl⟩
 | cons m t =>
  rcases h2 with ⟨_, h0⟩ | ⟨g, cap, cur, rfl, hb, hg, hcap, hmax, hcur, htake⟩
  ·simp at h0
  ·have hcell := fun j u hu => hcells.cells (g := g) rfl j u hu
   have hblk : g < w.heap.size := (Array.getElem?_eq_some_iff.1 hg).1
   have hH : HoldsK Spn.cells 8 w g 0 (m :: t).toArray := by
    intro j hj
    have hj' : j < (m :: t).length * 8 := by simpa [size_flatK] using hj
    refine ⟨?_, ?_⟩
    ·have := hcell j _ (flat_at (m :: t) j hj')
     rw [add_mid] at this
     exact this
    ·unfold World.frozen?
     simp [hg]
   have hs8 : (m :: t).toArray.size = (m :: t).length := by simp
   have hc := AnyQ.slices_SortFunc (P := Try.prog) Try.sortSp 8 agg37 size37 Spn.cells (fun _ => rfl) (fun x u hu => by simp [Spn.cells] at hu; rcases hu with rfl | rfl | rfl | rfl | rfl | rfl | rfl | rfl <;> rfl) cmpS swoS 31 #[] g 0 cap (m :: t).toArray w (enters_of Try.func31 (by kernel_rfl) rfl) (fun _ _ _ _ x y => closure_all x y _) hH hblk (by rw [hs8]; exact hl)
   change Calls Try.prog 30 _ _ _ at hc
   rw [hs8] at hc
   exact hc.mono fun e w' ⟨he, d', n, os, hp, hsd, hw⟩ => by
    have hsz : d'.size = (m :: t).toArray.size := hp.1
    have hlt : (sortWorldK Spn.cells 8 w g 0 n d' os).heap.size ≥ w.heap.size := by
     unfold sortWorldK; rw [size_grow]; unfold putRowK; rw [size_putRow]; exact Nat.le_add_right _ _
    have hho := holdsK_sortWorldK Spn.cells 8 w g 0 n (m :: t).toArray d' os hblk hH hsz
    subst hw
    refine ⟨he, ⟨rfl, rfl, rfl, hlt, fun k hk hne => ?_⟩, d'.toList, ?_, ?_, ?_⟩
    ·have hkg : g ≠ k := fun e => hne (by rw [← e]; rfl)
     unfold sortWorldK grow
     simp only
     rw [Array.getElem?_append_left (by unfold putRowK; rw [size_putRow]; exact hk)]
     unfold putRowK putRow mapBlock
     simp only
     rw [Array.getElem?_modify]
     simp only [hkg, if_false]
     rfl
    ·have := perm_of_in (d := (m :: t).toArray) (by rw [hs8]; exact hp)
     simpa using this
    ·exact sorted_of_in (by rw [hsz, hs8]; exact hsd)
    ·refine ⟨some ⟨g, 0, none⟩, cap, by simp [hsz], .inr ⟨g, 0, rfl, fun j u hu => ?_⟩⟩
     have hj : j < d'.toList.length * 8 := by rw [← cellsS_length]; exact (List.getElem?_eq_some_iff.1 hu).1
     have h3 := flat_at d'.toList j hj
     rw [hu] at h3
     have h4 := (hho j (by rw [size_flatK]; simpa using hj)).1
     rw [h4]
     simp at h3
     simp [h3]
end Go.Proofs.Ytibakmchgppndaa
