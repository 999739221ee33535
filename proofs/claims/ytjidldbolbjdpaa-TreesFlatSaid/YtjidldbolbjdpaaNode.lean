/- The closure node of trees.Of. -/
import Derived.Test.YtjidldbolbjdpaaTree
namespace Go.Proofs.Ytjidldbolbjdpaa
open Go.RowKit

def zero9 : List Value := zeroS.cells ++ [.slice none 0 0]
theorem inf39 : (Try.prog.info? 39).map (fun i => (i.zero, i.size, i.bytes)) = some (some (.agg zero9.toArray), 9, 112) := by kernel_rfl
theorem info39 : (Try.prog.info? 39).map (·.size) = some 9 := by kernel_rfl
theorem node_all (m : Spn) (v : Value) (h : v.oneCell' = true) : (m.cells ++ [v]).toArray.all (·.oneCell') = true := all_oneCell_toArray (fun u hu => by
  simp [Spn.cells] at hu
  rcases hu with rfl | rfl | rfl | rfl | rfl | rfl | rfl | rfl | rfl <;> first | rfl | exact h)
theorem nodeVal (z : Spn) (v : Value) : Value.agg (z.cells ++ [v]).toArray = .agg #[.int .i64 z.tr, .int .i64 z.id, .int .i64 z.pa, .string z.se, .string z.ho, .int .i64 z.st, .int .i64 z.du, .string z.no, v] := rfl
theorem sz26 : (Try.prog.info? 26).map (·.size) = some 1 := by kernel_rfl
theorem node_new (w : World) : (w.alloc (.cells zero9.toArray 39)).ownsRow w.heap.size 39 9 (.slice (some ⟨w.heap.size, 0, none⟩) 1 1) 1 zero9 := by
  have h := World.ownsRow_lit (e := 39) (size := 9) w zero9.toArray 1 (Nat.le_refl w.heap.size) (by unfold maxLen; omega) rfl
  simpa using h
theorem there9 {w : World} {base e g : Nat} {xs : List Value} (h : w.ownsRow base e 9 (.slice (some ⟨g, 0, none⟩) 1 1) 1 xs) : w.there g 0 9 := by
  intro j hj
  have hl : xs.length = 9 := by simpa using h.1
  have := own_cellN h (List.getElem?_eq_getElem (show j < xs.length by omega))
  rw [Nat.zero_add]
  exact ⟨by rw [this]; rfl, h.frozenAt _⟩
theorem setL_all : ∀ (vs xs : List Value), vs.length = xs.length → setL xs 0 vs = vs := by
  have : ∀ (vs a xs : List Value), vs.length = xs.length → setL (a ++ xs) a.length vs = a ++ vs := by
    intro vs
    induction vs with
    | nil => intro a xs h; simp at h; cases xs with | nil => simp [setL] | cons _ _ => simp at h
    | cons v r ih =>
      intro a xs h
      cases xs with
      | nil => simp at h
      | cons x t =>
        simp only [setL]
        rw [List.set_append_right _ _ (Nat.le_refl _), Nat.sub_self, List.set_cons_zero]
        have := ih (a ++ [v]) t (by simpa using h)
        simpa using this
  intro vs xs h
  simpa using this vs [] xs h
theorem own_all9 {w : World} {base e g : Nat} {xs : List Value} (h : w.ownsRow base e 9 (.slice (some ⟨g, 0, none⟩) 1 1) 1 xs) (vs : List Value) (hv : vs.length = 9) : (w.setCells g 0 vs).ownsRow base e 9 (.slice (some ⟨g, 0, none⟩) 1 1) 1 vs := by
  have := own_setL vs 0 h
  rwa [setL_all vs xs (by have := h.1; omega)] at this

/-- The two blocks that a node is made in. -/
structure Begun (w W : World) (rb : Nat) (vs : List Value) : Prop where
  new : w.heap.size = rb
  kept : Kept (fun _ => False) w W
  size : W.heap.size = rb + 2
  x : W.ownsRow (rb + 1) 39 9 (.slice (some ⟨rb + 1, 0, none⟩) 1 1) 1 vs
  res : W.ownsRow rb 39 9 (.slice (some ⟨rb, 0, none⟩) 1 1) 1 zero9
theorem begun (w : World) (vs : List Value) (hv : vs.length = 9) : Begun w ((w.alloc (.cells zero9.toArray 39)).alloc (.cells vs.toArray 39)) w.heap.size vs := by
  have s1 : (w.alloc (.cells zero9.toArray 39)).heap.size = w.heap.size + 1 := Array.size_push _
  have h := World.ownsRow_lit (e := 39) (size := 9) (w.alloc (.cells zero9.toArray 39)) vs.toArray 1 (Nat.le_refl _) (by unfold maxLen; omega) (by simpa using hv)
  rw [s1] at h
  exact ⟨rfl, ((Kept.refl (fun _ => False) w).alloc _).alloc _, by rw [show ((w.alloc (.cells zero9.toArray 39)).alloc (.cells vs.toArray 39)).heap.size = (w.alloc (.cells zero9.toArray 39)).heap.size + 1 from Array.size_push _, s1], by simpa using h, (node_new w).alloc _⟩

set_option maxHeartbeats 8000000 in
set_option maxRecDepth 100000 in
theorem node_any (R : List Spn) (hl : R.length ≤ 1000) : ∀ (d : Nat) (w : World) (b i bw bn wb : Nat), Low R d i → i < R.length → w.cell? ⟨bw, 0, none⟩ = some (.pointer (some ⟨wb, 0, none⟩)) →
    w.cell? ⟨bn, 0, none⟩ = some (.func (.func 24) #[] #[.pointer (some ⟨bw, 0, none⟩), .pointer (some ⟨bn, 0, none⟩)]) → Wood b w wb R →
    Calls Try.prog 24 #[.int .i64 i, .pointer (some ⟨bw, 0, none⟩), .pointer (some ⟨bn, 0, none⟩)] w fun e w' => ∃ v, e = .returned (.agg ((nth R i).cells ++ [v]).toArray) ∧ ReadsF (fun k => w.heap.size ≤ k) w' v (subF R d i) ∧ Kept (fun _ => False) w w' := by
  intro d
  induction d with
  | zero => intro w b i bw bn wb h; exact h.elim
  | succ d ih =>
    intro w b i bw bn wb hlow hi hbw hbn hwd
    have WD := Lib.hid hwd
    obtain ⟨_, ⟨v0, c0, rv0⟩, _, ⟨gd, _, c3, fk⟩⟩ := hwd
    obtain ⟨vk, ck, rk⟩ := fk i hi
    obtain ⟨ao, cap, rfl, rd⟩ := rv0.plain
    obtain ⟨g, o, rfl, hc⟩ : ∃ g o, ao = some ⟨g, o, none⟩ ∧ ∀ j u, (cellsS R)[j]? = some u → w.cell? ⟨g, o + j, none⟩ = some u := by
      rcases rd with h | h
      · subst h; simp at hi
      · exact h
    obtain ⟨y, hy⟩ : ∃ y, nth R i = y := ⟨_, rfl⟩
    have gy := nth_get hi
    rw [hy] at gy
    obtain ⟨e0, e1, e2, e3, e4, e5, e6, e7⟩ := ReadsS.at hc gy
    have b4 := World.block_lt_of_cell? _ _ e0
    obtain ⟨ks, hks⟩ : ∃ ks, kidF R R.length i = ks := ⟨_, rfl⟩
    rw [hks] at rk
    obtain ⟨ak, capk, rfl, rdk'⟩ := rk
    have rdk : ks = [] ∨ ∃ g o, ak = some ⟨g, o, none⟩ ∧ ∀ j u, (nats ks)[j]? = some u → w.cell? ⟨g, o + j, none⟩ = some u := rdk'.imp id (fun ⟨g, o, e, _, c⟩ => ⟨g, o, e, c⟩)
    clear rdk'
    obtain ⟨m, hm⟩ : ∃ m, ks.length = m := ⟨_, rfl⟩
    rw [hm] at ck
    obtain ⟨n, hn⟩ : ∃ n, R.length = n := ⟨_, rfl⟩
    rw [hn] at c0 c3 hi hl
    have i0 : (0 : Int) ≤ (i : Int) := by omega
    have i1 : (i : Int) < (n : Int) := by omega
    have hml : m ≤ 1000 := by have := kidF_len R R.length i; rw [hks] at this; omega
    have HN := Lib.hid hn; have HM := Lib.hid hm; have HY := Lib.hid hy; have HKS := Lib.hid hks; have CW := Lib.hid hbw; have CN := Lib.hid hbn; have RDK := Lib.hid rdk
    have LW := Lib.hid (show ∀ k ∈ ks, Low R d k from by rw [← hks]; exact hlow)
    have KSM := Lib.hid (show ∀ k ∈ ks, k < n from fun k hk => by rw [← hks] at hk; have := (mem_kidF.1 hk).1; omega)
    clear hn hm hy hks gy rdk hlow hc rd fk hbn
    have b1 := World.block_lt_of_cell? _ _ hbw
    have b2 := World.block_lt_of_cell? _ _ c0
    have b3 := World.block_lt_of_cell? _ _ ck
    simp only at b1 b2 b3 b4
    obtain ⟨i39, hi39, z39, s39, b39⟩ := info_parts inf39
    rw [HY.out]
    go_enter Try.func24, Try.ntmps24
    go_wp2
    refine wp_gen (fun W => Begun w W w.heap.size (y.cells ++ [Value.slice none 0 0])) (begun w (y.cells ++ [Value.slice none 0 0]) rfl) ?_
    intro W bg
    obtain ⟨rb, hrb⟩ : ∃ r, w.heap.size = r := ⟨_, rfl⟩
    rw [hrb] at bg ⊢
    have BG := Lib.hid bg
    clear bg hrb e0 e1 e2 e3 e4 e5 e6 e7 b1 b2 b3 b4 hbw c0 c3 ck
    go_loopg [24] m (fun ghv s wr => ∃ (j : Nat) (kv : Value) (l : List NR) (A : Nat → Prop), j + ghv = m ∧ s = .int .i64 j ∧ wr.ownsRow (rb + 1) 39 9 (.slice (some ⟨rb + 1, 0, none⟩) 1 1) 1 (y.cells ++ [kv]) ∧ Grown (rb + 2) A wr kv l ∧ (∀ k, A k → k < wr.heap.size) ∧ l.length = j ∧ frN l = forF (subF R d) R (ks.take j) ∧ Kept (fun k => k = rb + 1) W wr)
    case atStart => exact ⟨0, .slice none 0 0, [], fun _ => False, by omega, by go_num, BG.out.x, Grown.nil _ _ _, fun _ f => f.elim, rfl, rfl, Kept.refl _ _⟩
    case round =>
      obtain ⟨j, kv, l, A, hg1, rfl, hxo, hgr, hA, hll, hfr, hk⟩ := hrel
      have G1 := Lib.hid hg1; have XO := Lib.hid hxo; have GR := Lib.hid hgr; have HA := Lib.hid hA; have LL := Lib.hid hll; have FR := Lib.hid hfr; have KK := Lib.hid hk
      clear hg1 hxo hgr hA hll hfr hk
      by_cases hjm : j < m
      · have j0 : (j : Int) < (m : Int) := by omega
        have j1 : (0 : Int) ≤ (j : Int) := by omega
        have e1 : IntKind.i64.wrap ((j : Int) + 1) = ((j + 1 : Nat) : Int) := IntWalk.i64_in _ (by omega)
        obtain ⟨k, hkk⟩ : ∃ k, nth ks j = k := ⟨_, rfl⟩
        have gk := nth_get (l := ks) (k := j) (by rw [HM.out]; exact hjm)
        rw [hkk] at gk
        have hkm : k ∈ ks := List.mem_of_getElem? gk
        have hkn : k < R.length := by rw [HN.out]; exact KSM.out k hkm
        obtain ⟨g2, o2, rfl, hck⟩ : ∃ g o, ak = some ⟨g, o, none⟩ ∧ ∀ j u, (nats ks)[j]? = some u → w.cell? ⟨g, o + j, none⟩ = some u := by
          rcases RDK.out with h | h
          · have := HM.out; subst h; simp at this; omega
          · exact h
        have KW := Lib.hid (BG.out.kept.trans KK.out (fun _ _ h => h) (fun k h1 h2 => by have := BG.out.new; omega) : Kept (fun _ => False) w wr)
        have ckj := KW.out.cell (hck j _ (nats_at (by rw [HM.out]; exact hjm))) (fun f => f)
        rw [hkk] at ckj
        have GKK := Lib.hid gk; have HKM := Lib.hid hkm; have HKN := Lib.hid hkn; have HKK := Lib.hid hkk
        clear hkk gk hkm hkn hck
        obtain ⟨z, hz⟩ : ∃ z, nth R k = z := ⟨_, rfl⟩
        have HZ := Lib.hid hz
        clear hz
        have SS := Lib.hid (show ∀ w', Kept (fun _ => False) wr w' → w'.cell? ⟨rb + 1, 8, none⟩ = some kv ∧ w'.cell? ⟨bn, 0, none⟩ = some (.func (.func 24) #[] #[.pointer (some ⟨bw, 0, none⟩), .pointer (some ⟨bn, 0, none⟩)]) from fun w' k => ⟨k.cell (own_cellN XO.out (i := 8) rfl) (fun f => f), k.cell (KW.out.cell CN.out (fun f => f)) (fun f => f)⟩)
        have hkvs : ∃ a' c', kv = .slice a' l.length c' := by
          rcases row_form GR.out.row with ⟨q1, q2⟩ | ⟨g', c', q1, _⟩
          · exact ⟨none, 0, by rw [q1, q2]⟩
          · exact ⟨_, _, q1⟩
        go_wp2
        refine wp_region_last 8 (fun w' => w'.cell? ⟨rb + 1, 8, none⟩ = some kv ∧ w'.cell? ⟨bn, 0, none⟩ = some (.func (.func 24) #[] #[.pointer (some ⟨bw, 0, none⟩), .pointer (some ⟨bn, 0, none⟩)])) (by kernel_rfl) ?_
        have k0 := (Kept.refl (fun _ => False) wr).drew
        have hHeld := SS.out _ k0
        simp only [List.size_toArray, List.length_cons, List.length_nil, Nat.zero_add, Nat.reduceAdd]
        refine wpAnyF_take (i := 0) (v := ?_) opAt0 (by kernel_rfl) (by kernel_rfl) (by kernel_rfl) (by kernel_rfl) (by decide) (fun _ _ _ h => h) (Or.inl ⟨by rfl, ?_⟩) hHeld ?_
        case refine_2 => (intro w hSw; (try dsimp only at hSw); go_simp; all_goals (with_reducible rfl))
        (try simp only [Act.put]); (try simp only [List.setIfInBounds_toArray]); (try simp only [List.set_cons_succ]); (try simp only [List.set_cons_zero])
        refine wpAnyF_take (i := 1) (v := ?_) opAt1 (by kernel_rfl) (by kernel_rfl) (by kernel_rfl) (by kernel_rfl) (by decide) (fun _ _ _ h => h) (Or.inl ⟨by rfl, ?_⟩) hHeld ?_
        case refine_2 => (intro w hSw; (try dsimp only at hSw); go_simp; all_goals (with_reducible rfl))
        (try simp only [Act.put]); (try simp only [List.setIfInBounds_toArray]); (try simp only [List.set_cons_succ]); (try simp only [List.set_cons_zero])
        refine wpAnyF_take (i := 2) (v := ?_) opAt2 (by kernel_rfl) (by kernel_rfl) (by kernel_rfl) (by kernel_rfl) (by decide) (fun _ _ _ h => h) (Or.inl ⟨by rfl, ?_⟩) hHeld ?_
        case refine_2 => (intro w hSw; (try dsimp only at hSw); go_simp; all_goals (with_reducible rfl))
        (try simp only [Act.put]); (try simp only [List.setIfInBounds_toArray]); (try simp only [List.set_cons_succ]); (try simp only [List.set_cons_zero])
        refine wpAnyF_take (i := 3) (v := ?_) opAt3 (by kernel_rfl) (by kernel_rfl) (by kernel_rfl) (by kernel_rfl) (by decide) (fun _ _ _ h => h) (Or.inl ⟨by rfl, ?_⟩) hHeld ?_
        case refine_2 => (intro w hSw; (try dsimp only at hSw); go_simp; all_goals (with_reducible rfl))
        (try simp only [Act.put]); (try simp only [List.setIfInBounds_toArray]); (try simp only [List.set_cons_succ]); (try simp only [List.set_cons_zero])
        refine next1 4 (by kernel_rfl) opAt4 fun K' hK => ?_
        go_simp
        go_at_call 24
        refine (ih _ b k bw bn wb (LW.out k HKM.out) HKN.out ((keptFF KW.out k0).cell CW.out (fun f => f)) hHeld.2 (WD.out.kept (keptFF KW.out k0))).mono ?_
        rintro e w5 ⟨v5, rfl, rv5, k5⟩
        obtain ⟨a5, c5, ev, _⟩ := id rv5
        obtain ⟨n5, hn5⟩ : ∃ n, (subF R d k).len = n := ⟨_, rfl⟩
        rw [hn5] at ev
        subst ev
        clear hn5
        rw [HZ.out, nodeVal]
        have K5 := Lib.hid (keptFF k0 k5)
        have RV := Lib.hid rv5
        clear k5 rv5
        dsimp only
        have hHeld := SS.out _ K5.out
        refine hK _ _ ⟨fun _ => hHeld, ?_⟩
        clear hK K'
        (try simp only [Act.put]); (try simp only [List.setIfInBounds_toArray]); (try simp only [List.set_cons_succ]); (try simp only [List.set_cons_zero])
        refine next1 5 (by kernel_rfl) opAt5 fun K' hK => ?_
        go_simp
        have hHeld := SS.out (w5.alloc (.cells (z.cells ++ [Value.slice a5 n5 c5]).toArray 39)) (K5.out.alloc _)
        refine hK _ _ ⟨fun _ => hHeld, ?_⟩
        clear hK K'
        (try simp only [Act.put]); (try simp only [List.setIfInBounds_toArray]); (try simp only [List.set_cons_succ]); (try simp only [List.set_cons_zero])
        refine next1 6 (by kernel_rfl) opAt6 fun K' hK => ?_
        refine step_app (by rfl) _ _ 26 (by rfl) (rb + 2) 39 i39 _ 9 112 Try.underlying26 hi39 z39 s39 b39 (by rfl) (by decide) kv l.length _ (by rfl) ((own_keptS GR.out.row K5.out (fun _ _ f => f)).alloc _) ⟨_, 0, none⟩ 1 1 (z.cells ++ [Value.slice a5 n5 c5]) (by rfl) (by rfl) ?_ ?_ ?_ ?_ ?_ ?_
        · exact World.news_of_block (heap_alloc_new _ _)
        · intro u hu; simp [Spn.cells] at hu; rcases hu with rfl | rfl | rfl | rfl | rfl | rfl | rfl | rfl | rfl <;> rfl
        · have := LL.out; unfold maxLen; omega
        · have := LL.out; omega
        · have h1 := BG.out.size; have h2 := KK.out.size; have h3 := K5.out.size; simp; omega
        intro ao' cap' w6 hown hgr hat
        have KV := Lib.hid (((Kept.refl (fun _ => False) w5).alloc _).trans (grown_kept hgr) (fun _ _ f => f.elim) (fun _ _ h => h) : Kept (fun k => kv.ownBlock = some k) w5 w6)
        have HAT := Lib.hid (show (Value.slice ao' (l.length + 1) cap').ownBlock = kv.ownBlock ∨ ∃ b, (Value.slice ao' (l.length + 1) cap').ownBlock = some b ∧ w5.heap.size ≤ b from hat.imp id (fun e => ⟨_, e, by simp⟩))
        have GR2 := Lib.hid (GR.out.push HA.out (by have h1 := BG.out.size; have h2 := KK.out.size; omega) K5.out RV.out KV.out hown HAT.out)
        have SZ := Lib.hid (show ∀ k, (A k ∨ (Value.slice ao' (l.length + 1) cap').ownBlock = some k) → k < w6.heap.size from fun k hk => hk.elim (fun h => by have h1 := HA.out k h; have h2 := K5.out.size; have h3 := KV.out.size; omega) (fun h => (own_lt hown h).2))
        clear hown hgr hat
        have hHeld := (⟨KV.out.cell (SS.out _ K5.out).1 (fun e => by have h1 := own_lt GR.out.row e; simp only at h1; omega), KV.out.cell (SS.out _ K5.out).2 (fun e => by have h1 := own_lt GR.out.row e; have h2 := World.block_lt_of_cell? _ _ CN.out; have h3 := BG.out.new; simp only at h1 h2; omega)⟩ : w6.cell? ⟨rb + 1, 8, none⟩ = some kv ∧ w6.cell? ⟨bn, 0, none⟩ = some (.func (.func 24) #[] #[.pointer (some ⟨bw, 0, none⟩), .pointer (some ⟨bn, 0, none⟩)]))
        refine hK _ _ ⟨fun _ => hHeld, ?_⟩
        clear hK K'
        (try simp only [Act.put]); (try simp only [List.setIfInBounds_toArray]); (try simp only [List.set_cons_succ]); (try simp only [List.set_cons_zero])
        refine wpAnyF_take (i := 7) (v := ?_) opAt7 (by kernel_rfl) (by kernel_rfl) (by kernel_rfl) (by kernel_rfl) (by decide) (fun _ _ _ h => h) (Or.inl ⟨by rfl, ?_⟩) hHeld ?_
        case refine_2 => (intro w hSw; (try dsimp only at hSw); go_simp; all_goals (with_reducible rfl))
        (try simp only [Act.put]); (try simp only [List.setIfInBounds_toArray]); (try simp only [List.set_cons_succ]); (try simp only [List.set_cons_zero])
        refine next1 8 (by kernel_rfl) opAt8 fun K' hK => ?_
        have XO6 := Lib.hid (own_keptS (own_keptS XO.out K5.out (fun _ _ f => f)) KV.out (fun b hb e => by have h1 := own_lt GR.out.row e; cases hb; simp only at h1; omega))
        refine step_store1 (by rfl) 26 _ _ (by rfl) (rb + 1) 8 (.slice ao' (l.length + 1) cap') (by rfl) (by rfl) (by rw [hHeld.1]; rfl) (XO6.out.frozenAt _) sz26 rfl rfl ?_
        intro W2 hW2
        have XO2 := Lib.hid (show W2.ownsRow (rb + 1) 39 9 (.slice (some ⟨rb + 1, 0, none⟩) 1 1) 1 (y.cells ++ [.slice ao' (l.length + 1) cap']) from by rw [hW2]; exact own_putN XO6.out 8 _)
        have KP := Lib.hid (show Kept (fun k => k = rb + 1) w6 W2 from by rw [hW2]; exact kept_put w6 (rb + 1) 8 _)
        have GR3 := Lib.hid (GR2.out.keep KP.out (fun k _ e => by omega))
        have KK2 := Lib.hid (((KK.out.trans K5.out (fun _ _ h => h) (fun _ _ f => f.elim) : Kept (fun k => k = rb + 1) W w5).trans KV.out (fun _ _ h => h) (fun k h1 h2 => by have h3 := own_lt GR.out.row h2; have h4 := BG.out.size; omega) : Kept (fun k => k = rb + 1) W w6).trans KP.out (fun _ _ h => h) (fun _ _ h => h) : Kept (fun k => k = rb + 1) W W2)
        clear hW2
        refine hK _ _ ⟨fun h => absurd rfl h, ?_⟩
        clear hK K'
        (try simp only [Act.put]); (try simp only [List.setIfInBounds_toArray]); (try simp only [List.set_cons_succ]); (try simp only [List.set_cons_zero])
        refine wpAnyF_done (by kernel_rfl) ?_ _
        go_wp2
        go_roundg (m - (j + 1))
        case measure => have := G1.out; omega
        case rel => exact ⟨j + 1, _, _, _, by omega, by go_num, XO2.out, GR3.out, fun k hk => by have h1 := SZ.out k hk; have h2 := KP.out.size; omega, by simp [LL.out], by
          rw [frN_app, FR.out, List.take_add_one, GKK.out, Option.toList_some, forF_app]; simp only [frN, forF, HZ.out], KK2.out⟩
      · have j0 : ¬ (j : Int) < (m : Int) := by omega
        have E1 := Lib.hid (show j = m from by have := G1.out; omega)
        have KW := Lib.hid (BG.out.kept.trans KK.out (fun _ _ h => h) (fun k h1 h2 => by have := BG.out.new; omega) : Kept (fun _ => False) w wr)
        have RO := Lib.hid (own_keptS BG.out.res KK.out (fun b hb e => by cases hb; simp only at e; omega))
        obtain ⟨a1, c1, hkv⟩ : ∃ a' c', kv = .slice a' l.length c' := by
          rcases row_form GR.out.row with ⟨q1, q2⟩ | ⟨g', c', q1, _⟩
          · exact ⟨none, 0, by rw [q1, q2]⟩
          · exact ⟨_, _, q1⟩
        obtain ⟨nl, hnl⟩ : ∃ n, l.length = n := ⟨_, rfl⟩
        rw [hnl] at hkv
        subst hkv
        clear hnl
        have x0 := own_cellN XO.out (i := 0) rfl; have x1 := own_cellN XO.out (i := 1) rfl; have x2 := own_cellN XO.out (i := 2) rfl; have x3 := own_cellN XO.out (i := 3) rfl
        have x4 := own_cellN XO.out (i := 4) rfl; have x5 := own_cellN XO.out (i := 5) rfl; have x6 := own_cellN XO.out (i := 6) rfl; have x7 := own_cellN XO.out (i := 7) rfl; have x8 := own_cellN XO.out (i := 8) rfl
        go_wp2_with (refine wpList_store_letter (by rfl) 39 _ _ (by rfl) rb 0 (y.cells ++ [Value.slice a1 nl c1]).toArray (by rfl) (by rfl) (there9 RO.out) info39 (node_all y _ rfl) ?_; intro W2 hW2; have RO2 := Lib.hid (show W2.ownsRow rb 39 9 (.slice (some ⟨rb, 0, none⟩) 1 1) 1 (y.cells ++ [Value.slice a1 nl c1]) from by rw [hW2]; exact own_all9 RO.out _ rfl); have KP := Lib.hid (show Kept (fun k => k = rb) wr W2 from by rw [hW2]; exact Kept.setCells (S := fun k => k = rb) (fun _ => rfl) _ 0 (Kept.refl _ wr)); clear hW2 x0 x1 x2 x3 x4 x5 x6 x7 x8; have r0 := own_cellN RO2.out (i := 0) rfl; have r1 := own_cellN RO2.out (i := 1) rfl; have r2 := own_cellN RO2.out (i := 2) rfl; have r3 := own_cellN RO2.out (i := 3) rfl; have r4 := own_cellN RO2.out (i := 4) rfl; have r5 := own_cellN RO2.out (i := 5) rfl; have r6 := own_cellN RO2.out (i := 6) rfl; have r7 := own_cellN RO2.out (i := 7) rfl; have r8 := own_cellN RO2.out (i := 8) rfl)
        refine bodyPost_ret (v := .agg (y.cells ++ [Value.slice a1 nl c1]).toArray) (by simp [results, Try.results24, go_sem, r0, r1, r2, r3, r4, r5, r6, r7, r8]; try rfl) rfl ?_
        refine ⟨.slice a1 nl c1, rfl, ?_, KW.out.trans KP.out (fun _ _ h => h) (fun k h1 h2 => by have := BG.out.new; omega)⟩
        have hf : frN l = subF R (d + 1) i := by rw [FR.out, subF, HKS.out, List.take_of_length_le (by rw [HM.out, E1.out]; exact Nat.le_refl _)]
        rw [← hf]
        exact GR.out.reads.keptS KP.out (fun k _ hs e => by omega) (fun k _ hs => by have := BG.out.new; omega)
end Go.Proofs.Ytjidldbolbjdpaa
