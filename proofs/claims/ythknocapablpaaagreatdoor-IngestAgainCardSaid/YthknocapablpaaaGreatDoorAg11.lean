/- A part of the proof. -/
import Derived.Lib.Walk
import Derived.Sort.Walk0
import Derived.RangeFuncKeeps
import Derived.RangeFuncLeaves
import Derived.Shelf.Abstract
import Derived.OwnWalkIn
import Derived.TacticsInMore
import Derived.LoopNIn
import Derived.LoopIn
import Derived.Sort.LoopGhostIn
import Derived.RangeFuncWrites
import Derived.Test.YthknocapablpaaaGreatDoorAg10

/- The two methods of merges.rows that change how many rows there are: Push, Pop. -/
namespace Go.Proofs.YthknocapablpaaaGreatDoor.Mg
set_option maxRecDepth 100000
open Go.RowKit

theorem inf58 : (Tryz.prog.info? 396).map (fun i => (i.zero, i.size, i.bytes)) = some (some (.agg #[.slice none 0 0, .int .i64 0]), 2, 32) := by kernel_rfl
theorem assert58 (x : Value) (W : World) : (Instr.typeAssert (.iface 396 x) 20 396 false).run Tryz.prog W = .ok x W := by kernel_rfl
def Rw.val (r : Rw) : Value := .agg #[.slice (some ⟨r.blk, r.off, none⟩) r.xs.length r.cap, .int .i64 r.place]
/-- Which blocks the heap's own acts may turn. -/
def mine (p : Nat) (v : Value) (b : Nat) : Prop := b = p ∨ v.ownBlock = some b

theorem HeapAt.new {w w2 : World} {base p : Nat} {v v' : Value} {l l' : List Rw} (h : HeapAt w base p v l) (hK : Kept (fun b => v.ownBlock = some b) w w2) (ho : w2.ownsRow base 396 2 v' l'.length (cellsH l'))
  (hat : v'.ownBlock = v.ownBlock ∨ ∀ b, v'.ownBlock = some b → w.heap.size ≤ b) (hg : ∀ r ∈ l', GoodR w r ∧ r.blk ≠ p ∧ v.ownBlock ≠ some r.blk) (few : l'.length ≤ 100) :
  HeapAt (w2.setCell ⟨p, 0, none⟩ v') base p v' l' ∧ Kept (mine p v) w (w2.setCell ⟨p, 0, none⟩ v') := by
 have hp := World.block_lt_of_cell? _ _ h.cell
 simp only at hp
 have hnp : v'.ownBlock ≠ some p := by
  rcases hat with e | e
  ·rw [e]; exact h.np
  ·intro f; have := e p f; omega
 have hK2 : Kept (mine p v) w (w2.setCell ⟨p, 0, none⟩ v') := Kept.setAt (fun _ => .inl rfl) (hK.mono (fun k _ hk => .inr hk))
 have c2 := hK.cell h.cell h.np
 refine ⟨⟨World.cell?_setCell_same' _ _ _ (by rw [c2]; rfl), by rw [World.frozen?_setCell]; exact hK.frozen h.fz hp h.np, ownsRow_setCell_other ho hnp _, fun r hr => ?_, hnp, fun r hr => ?_, few⟩, hK2⟩
 ·obtain ⟨h1, h2, h3⟩ := hg r hr
  exact h1.kept hK2 (fun e => e.elim h2 h3)
 ·obtain ⟨h1, h2, h3⟩ := hg r hr
  refine ⟨h2, ?_⟩
  rcases hat with e | e
  ·rw [e]; exact h3
  ·intro f
   have := e _ f
   have := World.block_lt_of_cell? _ _ h1.hd.1
   simp only at this
   omega

set_option maxHeartbeats 2000000 in
theorem rows_push {w : World} {base p : Nat} {v : Value} {l : List Rw} {r : Rw} (h : HeapAt w base p v l) (hr : GoodR w r) (hrp : r.blk ≠ p) (hrv : v.ownBlock ≠ some r.blk) (hl : l.length < 100) (hb : base ≤ w.heap.size) :
  Calls Tryz.prog 418 #[.pointer (some ⟨p, 0, none⟩), .iface 396 (.agg #[.slice (some ⟨r.blk, r.off, none⟩) r.xs.length r.cap, .int .i64 r.place])] w fun e w' => e = .returned (.tuple #[]) ∧
   ∃ v', HeapAt w' base p v' (l ++ [r]) ∧ Kept (mine p v) w w' ∧ (v'.ownBlock = v.ownBlock ∨ ∀ b, v'.ownBlock = some b → w.heap.size ≤ b) := by
 obtain ⟨i0, hi0, hz0, hz1, hz2⟩ := info_parts inf58
 have hc := h.cell
 have hlt := World.block_lt_of_cell? _ _ hc
 simp only at hlt
 have hfz := h.fz
 have hrl := World.block_lt_of_cell? _ _ hr.hd.1
 simp only at hrl
 have hf : ∃ ao cap, v = .slice ao l.length cap := by
  rcases row_form h.own with ⟨rfl, hn⟩ | ⟨g, cap, rfl, hc, _, _, _⟩
  ·exact ⟨none, 0, by rw [hn]⟩
  ·exact ⟨_, _, rfl⟩
 obtain ⟨ao, cap, rfl⟩ := hf
 have H := Lib.hid h; have O := Lib.hid h.own; have R := Lib.hid hr; have RV := Lib.hid hrv
 have a1 : ¬ (Value.slice ao l.length cap).ownBlock = some p := h.np
 clear h hr hrv
 have hta := assert58
 go_enter Tryz.func418, Tryz.ntmps418
 go_region_law
  ((refine step_app (by rfl) _ _ 390 (by rfl) base 396 i0 _ 2 32 Tryz.underlying390 hi0 hz0 hz1 hz2 (by rfl) (by decide) _ l.length _ (by rfl) (O.out.alloc _) ⟨w.heap.size, 0, none⟩ 1 1 [.slice (some ⟨r.blk, r.off, none⟩) r.xs.length r.cap, .int .i64 r.place] (by rfl) (by rfl) ?_ ?_ ?_ ?_ ?_ ?_; (exact World.news_of_block (heap_alloc_new w _)); (intro u hu; simp at hu; rcases hu with rfl | rfl <;> rfl); (unfold maxLen; omega); omega; (simp; omega); intro ao' cap' w2 hown2 hgr hat; (have KG := grown_kept hgr); (have s0 := KG.cell (a := ⟨p, 0, none⟩) (v := .slice ao l.length cap) (by simp [go_sem, hc, hlt]) a1); (have sf := KG.frozen (a := ⟨p, 0, none⟩) (by simp [go_sem, hfz, hlt]) (by simp; omega) a1)))
 all_goals go_wp2
 all_goals go_end0
 all_goals
  have k1 : Kept (fun k => (Value.slice ao l.length cap).ownBlock = some k) w w2 := ((Kept.refl (fun _ => False) w).alloc (Obj.cells #[Value.slice (some ⟨r.blk, r.off, none⟩) r.xs.length r.cap, Value.int .i64 r.place] 396)).drew.trans KG (fun _ _ f => f.elim) (fun _ _ h => h)
  have hat2 : (Value.slice ao' (l.length + 1) cap').ownBlock = (Value.slice ao l.length cap).ownBlock ∨ ∀ b, (Value.slice ao' (l.length + 1) cap').ownBlock = some b → w.heap.size ≤ b := by
   rcases hat with e | e
   ·exact .inl e
   ·right; intro b hb; rw [hb] at e; have := Option.some.inj e; simp at this; omega
  obtain ⟨q1, q2⟩ := H.out.new (l' := l ++ [r]) (v' := .slice ao' (l.length + 1) cap') k1 (by
   have e1 : cellsH (l ++ [r]) = cellsH l ++ [.slice (some ⟨r.blk, r.off, none⟩) r.xs.length r.cap, .int .i64 r.place] := by rw [cellsH_append]; rfl
   rw [e1, List.length_append]
   exact hown2) hat2 (fun x hx => by
   rcases List.mem_append.1 hx with hx | hx
   ·exact ⟨H.out.good x hx, H.out.nr x hx⟩
   ·rw [List.mem_singleton.1 hx]; exact ⟨R.out, hrp, RV.out⟩) (by simp; omega)
  exact ⟨rfl, _, q1, q2, hat2⟩

set_option maxHeartbeats 2000000 in
theorem rows_pop {w : World} {base p : Nat} {v : Value} {l : List Rw} (h : HeapAt w base p v l) (hl : 0 < l.length) :
  Calls Tryz.prog 417 #[.pointer (some ⟨p, 0, none⟩)] w fun e w' => e = .returned (.iface 396 (.agg #[.slice (some ⟨(nth l (l.length - 1)).blk, (nth l (l.length - 1)).off, none⟩) (nth l (l.length - 1)).xs.length (nth l (l.length - 1)).cap, .int .i64 (nth l (l.length - 1)).place])) ∧
   ∃ v', HeapAt w' base p v' (l.take (l.length - 1)) ∧ Kept (mine p v) w w' ∧ v'.ownBlock = v.ownBlock := by
 obtain ⟨g, cap, rfl, hcap, hbg, hgl⟩ := h.form hl
 have hc := h.cell
 have hlt := World.block_lt_of_cell? _ _ hc
 simp only at hlt
 have hfz := h.fz
 obtain ⟨n, hn⟩ : ∃ n, l.length - 1 = n := ⟨_, rfl⟩
 have hn1 : l.length = n + 1 := by omega
 obtain ⟨a0, a1⟩ := h.rowAt (i := n) (by omega)
 rw [hn]
 obtain ⟨r, hr⟩ : ∃ r, nth l n = r := ⟨_, rfl⟩
 rw [hr] at a0 a1 ⊢
 have few := h.few
 have e1 : IntKind.i64.wrap ((l.length : Int) - 1) = (n : Int) := by rw [hn1]; simp; exact IntWalk.i64_in _ (by omega)
 have i1 : (0 : Int) ≤ (n : Int) := by omega
 have i2 : (n : Int) < (l.length : Int) := by omega
 have i3 : (n : Int) ≤ (cap : Int) := by omega
 have H := Lib.hid h; have N := Lib.hid hn; have N1 := Lib.hid hn1; have R := Lib.hid hr
 clear h hn hn1 hr
 go_enter Tryz.func417, Tryz.ntmps417
 go_wp2
 go_ret
 have el : l = l.take n ++ [r] := by
  have h3 : l.take (n + 1) = l := List.take_of_length_le (by have := N1.out; omega)
  rw [List.take_add_one, nth_get l (by have := N1.out; omega), R.out] at h3
  simpa using h3.symm
 have lt : (l.take n).length = n := by rw [List.length_take]; have := N1.out; omega
 have own : w.ownsRow base 396 2 (.slice (some ⟨g, 0, none⟩) (n + 1) cap) (n + 1) (cellsH (l.take n) ++ [.slice (some ⟨r.blk, r.off, none⟩) r.xs.length r.cap, .int .i64 r.place]) := by
  have h1 := H.out.own
  have e2 : cellsH l = cellsH (l.take n) ++ [.slice (some ⟨r.blk, r.off, none⟩) r.xs.length r.cap, .int .i64 r.place] := by
   conv => lhs; rw [el]
   rw [cellsH_append]; rfl
  rw [e2, N1.out] at h1
  exact h1
 have own2 := ownsRow_pop (by rw [cellsH_length, lt]) own
 obtain ⟨q1, q2⟩ := H.out.new (w2 := w) (l' := l.take n) (v' := .slice (some ⟨g, 0, none⟩) n cap) (Kept.refl _ w) (by rw [lt]; exact own2) (.inl rfl) (fun x hx => ⟨H.out.good x (List.mem_of_mem_take hx), H.out.nr x (List.mem_of_mem_take hx)⟩) (by omega)
 exact ⟨rfl, .slice (some ⟨g, 0, none⟩) n cap, q1.kept ((Kept.refl _ _).alloc _), q2.alloc _, rfl⟩
end Go.Proofs.YthknocapablpaaaGreatDoor.Mg

/- container/heap over merges.rows: up, down, Push, Pop. -/
namespace Go.Proofs.YthknocapablpaaaGreatDoor.Mg
set_option maxRecDepth 100000
open Go.RowKit

theorem HeapAt.slice {w : World} {base p : Nat} {v : Value} {l : List Rw} (h : HeapAt w base p v l) : ∃ a cap, v = .slice a l.length cap := by
 rcases row_form h.own with ⟨rfl, hn⟩ | ⟨g, cap, rfl, _⟩
 ·exact ⟨none, 0, by rw [hn]⟩
 ·exact ⟨_, _, rfl⟩

set_option maxHeartbeats 2000000 in
theorem up_w {w : World} {base p : Nat} {v : Value} {l : List Rw} (h : HeapAt w base p v l) (j : Nat) (hj : j < l.length) :
  Calls Tryz.prog 349 #[.iface 394 (.pointer (some ⟨p, 0, none⟩)), .int .i64 j] w fun e w' => e = .returned (.tuple #[]) ∧ HeapAt w' base p v (upL ltR l j) ∧ Kept (fun b => v.ownBlock = some b) w w' := by
 have few := h.few
 have H0 := Lib.hid h; clear h
 go_enter Tryz.func349, Tryz.ntmps349
 go_wp2
 go_loopg [1] j (fun g t wr => t = .int .i64 g ∧ g < l.length ∧ ∃ l', HeapAt wr base p v l' ∧ upL ltR l' g = upL ltR l j ∧ l'.length = l.length ∧ Kept (fun b => v.ownBlock = some b) w wr)
 case atStart => exact ⟨rfl, hj, l, H0.out, rfl, rfl, Kept.refl _ _⟩
 case round =>
  obtain ⟨rfl, hg, l', h1, h2, h3, h4⟩ := hrel
  have H := Lib.hid h1; have U := Lib.hid h2; have LN := Lib.hid h3; have K := Lib.hid h4
  clear h1 h2 h3 h4
  by_cases h0 : gk = 0
  ·have e0 : ((gk : Int) - 1).tdiv 2 = (gk : Int) := by subst h0; decide
   have G := Lib.hid h0; clear h0
   go_wp2
   go_end0
   refine ⟨rfl, ?_, K.out⟩
   have e : l' = upL ltR l j := by rw [← U.out, upL, dif_pos G.out]
   rw [← e]; exact H.out
  ·obtain ⟨i, hi⟩ : ∃ i, (gk - 1) / 2 = i := ⟨_, rfl⟩
   have e0 : ((gk : Int) - 1).tdiv 2 = (i : Int) := by
    rw [show (gk : Int) - 1 = ((gk - 1 : Nat) : Int) by omega, ← hi, Int.tdiv_eq_ediv_of_nonneg (by omega)]
    omega
   have ew : wrap64 (i : Int) = (i : Int) := by unfold wrap64; omega
   have hne : ¬ (i : Int) = (gk : Int) := by omega
   have hne2 : ¬ i = gk := by omega
   have hm := m_less p wr v H.out.cell
   have G := Lib.hid hi; have G0 := Lib.hid h0; clear hi h0
   cases hb : ltR (nth l' gk) (nth l' i) with
   | false =>
    go_wp2_with (go_at_call 415; refine (less_heap H.out gk i (by rw [LN.out]; exact hg) (by have := G.out; have := LN.out; omega)).mono ?_; rw [hb]; rintro e w4 ⟨rfl, K4⟩; (have H4 := Lib.hid (H.out.kept K4)); (have KK4 := Lib.hid K4); clear K4)
    go_end0
    refine ⟨rfl, ?_, K.out.trans KK4.out (fun _ _ h => h) (fun _ _ f => f.elim)⟩
    have e : l' = upL ltR l j := by rw [← U.out, upL, dif_neg G0.out, G.out, hb]; rfl
    rw [← e]; exact H4.out
   | true =>
    go_wp2_with (first
     | (go_at_call 415; refine (less_heap H.out gk i (by rw [LN.out]; exact hg) (by have := G.out; have := LN.out; omega)).mono ?_; rw [hb]; rintro e w4 ⟨rfl, K4⟩; (have H4 := Lib.hid (H.out.kept K4)); (have hm4 := m_swap p w4 v H4.out.cell); (have KK4 := Lib.hid K4); clear K4)
     | (go_at_call 416; refine (swap_heap H4.out i gk (by have := G.out; have := LN.out; omega) (by rw [LN.out]; exact hg)).mono ?_; rintro e w5 ⟨rfl, H5', K5⟩; (have H5 := Lib.hid H5'); (have KK5 := Lib.hid K5); clear K5 H5'))
    go_roundg i
    case measure => have := G.out; have := G0.out; omega
    case rel => exact ⟨rfl, by have := G.out; omega, _, H5.out, by rw [← U.out]; conv => { rhs; rw [upL, dif_neg G0.out, G.out, if_pos hb] }, by rw [length_swapL]; exact LN.out, (K.out.trans KK4.out (fun _ _ h => h) (fun _ _ f => f.elim)).trans KK5.out (fun _ _ h => h) (fun _ _ h => h)⟩
end Go.Proofs.YthknocapablpaaaGreatDoor.Mg

/- container/heap's down over merges.rows. -/
namespace Go.Proofs.YthknocapablpaaaGreatDoor.Mg
set_option maxRecDepth 100000
open Go.RowKit

set_option maxHeartbeats 4000000 in
theorem down_w {w : World} {base p : Nat} {v : Value} {l : List Rw} (h : HeapAt w base p v l) (n : Nat) (hn : n ≤ l.length) (hl : 0 < l.length) :
  Calls Tryz.prog 378 #[.iface 394 (.pointer (some ⟨p, 0, none⟩)), .int .i64 0, .int .i64 n] w fun e w' => (∃ x, e = .returned x) ∧ HeapAt w' base p v (downL ltR n l 0) ∧ Kept (fun b => v.ownBlock = some b) w w' := by
 have few := h.few
 have H0 := Lib.hid h; clear h
 go_enter Tryz.func378, Tryz.ntmps378
 go_wp2
 go_loopg [7] n (fun g t wr => ∃ i : Nat, g = n - i ∧ t = .int .i64 i ∧ i < l.length ∧ ∃ l', HeapAt wr base p v l' ∧ downL ltR n l' i = downL ltR n l 0 ∧ l'.length = l.length ∧ Kept (fun b => v.ownBlock = some b) w wr)
 case atStart => exact ⟨0, rfl, rfl, hl, l, H0.out, rfl, rfl, Kept.refl _ _⟩
 case round =>
  obtain ⟨i, hgk, rfl, hi, l', h1, h2, h3, h4⟩ := hrel
  have H := Lib.hid h1; have U := Lib.hid h2; have LN := Lib.hid h3; have K := Lib.hid h4; have GK := Lib.hid hgk
  clear h1 h2 h3 h4 hgk
  obtain ⟨a, ha⟩ : ∃ a, 2 * i + 1 = a := ⟨_, rfl⟩
  obtain ⟨b, hb⟩ : ∃ b, a + 1 = b := ⟨_, rfl⟩
  have ea : 2 * (i : Int) + 1 = (a : Int) := by omega
  have eb : (a : Int) + 1 = (b : Int) := by omega
  have wa : wrap64 (a : Int) = (a : Int) := by unfold wrap64; omega
  have wb : wrap64 (b : Int) = (b : Int) := by unfold wrap64; omega
  have A := Lib.hid ha; have B := Lib.hid hb; have EB := Lib.hid eb; clear ha hb eb
  have c2 : ¬ (a : Int) < 0 := by omega
  by_cases han : a < n
  ·have c1 : ¬ (n : Int) ≤ (a : Int) := by omega
   have eb := EB.out
   by_cases hbn : b < n
   ·have c3 : (b : Int) < (n : Int) := by omega
    have hm := m_less p wr v H.out.cell
    have HA := Lib.hid han; have HB := Lib.hid hbn; clear hbn
    cases hx : ltR (nth l' b) (nth l' a) with
    | false =>
     have hk : kidL ltR n l' i = a := by
      unfold kidL; rw [show 2 * i + 2 = b by have := A.out; have := B.out; omega, A.out, hx]; simp
     have HK := Lib.hid hk; have X := Lib.hid hx; clear hk hx
     go_wp2_with fail
     refine (less_heap H.out b a (by have := HB.out; have := LN.out; omega) (by have := HA.out; have := LN.out; omega)).mono ?_
     rw [X.out]; rintro e w4 ⟨rfl, K4⟩
     have H4 := Lib.hid (H.out.kept K4); have hm4 := m_less p w4 v H4.out.cell; have KK4 := Lib.hid (K.out.trans K4 (fun _ _ h => h) (fun _ _ f => f.elim))
     clear K4
     have GD := Lib.hid (kidL_gt ltR n l' i)
     cases hy : ltR (nth l' a) (nth l' i) with
     | false =>
      have Y := Lib.hid hy; clear hy
      go_wp2_with fail
      refine (less_heap H4.out a i (by have := HA.out; have := LN.out; omega) (by rw [LN.out]; exact hi)).mono ?_
      rw [Y.out]; rintro e w5 ⟨rfl, K5⟩
      have H5 := Lib.hid (H4.out.kept K5); have KK5 := Lib.hid (KK4.out.trans K5 (fun _ _ h => h) (fun _ _ f => f.elim)); clear K5
      go_wp2
      go_ret
      refine ⟨⟨_, rfl⟩, ?_, KK5.out⟩
      have e : l' = downL ltR n l 0 := by rw [← U.out, downL, dif_pos (by rw [A.out]; exact HA.out), HK.out, Y.out]; rfl
      rw [← e]; exact H5.out
     | true =>
      have Y := Lib.hid hy; clear hy
      go_wp2_with fail
      refine (less_heap H4.out a i (by have := HA.out; have := LN.out; omega) (by rw [LN.out]; exact hi)).mono ?_
      rw [Y.out]; rintro e w5 ⟨rfl, K5⟩
      have H5 := Lib.hid (H4.out.kept K5); have KK5 := Lib.hid (KK4.out.trans K5 (fun _ _ h => h) (fun _ _ f => f.elim)); clear K5
      have hm5 := m_swap p w5 v H5.out.cell
      go_wp2_with fail
      refine (swap_heap H5.out i a (by rw [LN.out]; exact hi) (by have := HA.out; have := LN.out; omega)).mono ?_
      rintro e w6 ⟨rfl, H6', K6⟩
      have H6 := Lib.hid H6'; have KK6 := Lib.hid (KK5.out.trans K6 (fun _ _ h => h) (fun _ _ h => h)); clear H6' K6
      go_wp2
      go_roundg (n - a)
      case measure => have := GK.out; have := A.out; have := B.out; have := HA.out; omega
      case rel => exact ⟨a, rfl, rfl, by have := HA.out; omega, _, H6.out, by rw [← U.out]; conv => { rhs; rw [downL, dif_pos (show 2 * i + 1 < n by rw [A.out]; exact HA.out), HK.out, if_pos Y.out] }, by rw [length_swapL]; exact LN.out, KK6.out⟩
    | true =>
     have hk : kidL ltR n l' i = b := by
      unfold kidL; rw [show 2 * i + 2 = b by have := A.out; have := B.out; omega, A.out, hx]; simp [HB.out]
     have HK := Lib.hid hk; have X := Lib.hid hx; clear hk hx
     go_wp2_with fail
     refine (less_heap H.out b a (by have := HB.out; have := LN.out; omega) (by have := HA.out; have := LN.out; omega)).mono ?_
     rw [X.out]; rintro e w4 ⟨rfl, K4⟩
     have H4 := Lib.hid (H.out.kept K4); have hm4 := m_less p w4 v H4.out.cell; have KK4 := Lib.hid (K.out.trans K4 (fun _ _ h => h) (fun _ _ f => f.elim))
     clear K4
     have GD := Lib.hid (kidL_gt ltR n l' i)
     cases hy : ltR (nth l' b) (nth l' i) with
     | false =>
      have Y := Lib.hid hy; clear hy
      go_wp2_with fail
      refine (less_heap H4.out b i (by have := HA.out; have := LN.out; have := HB.out; omega) (by rw [LN.out]; exact hi)).mono ?_
      rw [Y.out]; rintro e w5 ⟨rfl, K5⟩
      have H5 := Lib.hid (H4.out.kept K5); have KK5 := Lib.hid (KK4.out.trans K5 (fun _ _ h => h) (fun _ _ f => f.elim)); clear K5
      go_wp2
      go_ret
      refine ⟨⟨_, rfl⟩, ?_, KK5.out⟩
      have e : l' = downL ltR n l 0 := by rw [← U.out, downL, dif_pos (by rw [A.out]; exact HA.out), HK.out, Y.out]; rfl
      rw [← e]; exact H5.out
     | true =>
      have Y := Lib.hid hy; clear hy
      go_wp2_with fail
      refine (less_heap H4.out b i (by have := HA.out; have := LN.out; have := HB.out; omega) (by rw [LN.out]; exact hi)).mono ?_
      rw [Y.out]; rintro e w5 ⟨rfl, K5⟩
      have H5 := Lib.hid (H4.out.kept K5); have KK5 := Lib.hid (KK4.out.trans K5 (fun _ _ h => h) (fun _ _ f => f.elim)); clear K5
      have hm5 := m_swap p w5 v H5.out.cell
      go_wp2_with fail
      refine (swap_heap H5.out i b (by rw [LN.out]; exact hi) (by have := HA.out; have := LN.out; have := HB.out; omega)).mono ?_
      rintro e w6 ⟨rfl, H6', K6⟩
      have H6 := Lib.hid H6'; have KK6 := Lib.hid (KK5.out.trans K6 (fun _ _ h => h) (fun _ _ h => h)); clear H6' K6
      go_wp2
      go_roundg (n - b)
      case measure => have := GK.out; have := A.out; have := B.out; have := HA.out; omega
      case rel => exact ⟨b, rfl, rfl, by have := HA.out; have := HB.out; omega, _, H6.out, by rw [← U.out]; conv => { rhs; rw [downL, dif_pos (show 2 * i + 1 < n by rw [A.out]; exact HA.out), HK.out, if_pos Y.out] }, by rw [length_swapL]; exact LN.out, KK6.out⟩
   ·have c3 : ¬ (b : Int) < (n : Int) := by omega
    have hm := m_less p wr v H.out.cell
    have hk : kidL ltR n l' i = a := by
     unfold kidL; rw [show 2 * i + 2 = b by have := A.out; have := B.out; omega, A.out]; simp [hbn]
    have HA := Lib.hid han; have HB := Lib.hid hbn; have HK := Lib.hid hk; clear hbn hk
    skip
    have GD := Lib.hid (kidL_gt ltR n l' i)
    cases hy : ltR (nth l' a) (nth l' i) with
    | false =>
     have Y := Lib.hid hy; clear hy
     go_wp2_with fail
     refine (less_heap H.out a i (by have := HA.out; have := LN.out; omega) (by rw [LN.out]; exact hi)).mono ?_
     rw [Y.out]; rintro e w5 ⟨rfl, K5⟩
     have H5 := Lib.hid (H.out.kept K5); have KK5 := Lib.hid (K.out.trans K5 (fun _ _ h => h) (fun _ _ f => f.elim)); clear K5
     go_wp2
     go_ret
     refine ⟨⟨_, rfl⟩, ?_, KK5.out⟩
     have e : l' = downL ltR n l 0 := by rw [← U.out, downL, dif_pos (by rw [A.out]; exact HA.out), HK.out, Y.out]; rfl
     rw [← e]; exact H5.out
    | true =>
     have Y := Lib.hid hy; clear hy
     go_wp2_with fail
     refine (less_heap H.out a i (by have := HA.out; have := LN.out; omega) (by rw [LN.out]; exact hi)).mono ?_
     rw [Y.out]; rintro e w5 ⟨rfl, K5⟩
     have H5 := Lib.hid (H.out.kept K5); have KK5 := Lib.hid (K.out.trans K5 (fun _ _ h => h) (fun _ _ f => f.elim)); clear K5
     have hm5 := m_swap p w5 v H5.out.cell
     go_wp2_with fail
     refine (swap_heap H5.out i a (by rw [LN.out]; exact hi) (by have := HA.out; have := LN.out; omega)).mono ?_
     rintro e w6 ⟨rfl, H6', K6⟩
     have H6 := Lib.hid H6'; have KK6 := Lib.hid (KK5.out.trans K6 (fun _ _ h => h) (fun _ _ h => h)); clear H6' K6
     go_wp2
     go_roundg (n - a)
     case measure => have := GK.out; have := A.out; have := B.out; have := HA.out; omega
     case rel => exact ⟨a, rfl, rfl, by have := HA.out; omega, _, H6.out, by rw [← U.out]; conv => { rhs; rw [downL, dif_pos (show 2 * i + 1 < n by rw [A.out]; exact HA.out), HK.out, if_pos Y.out] }, by rw [length_swapL]; exact LN.out, KK6.out⟩
  ·have c1 : (n : Int) ≤ (a : Int) := by omega
   have HA := Lib.hid han; clear han
   go_wp2
   go_ret
   refine ⟨⟨_, rfl⟩, ?_, K.out⟩
   have e : l' = downL ltR n l 0 := by rw [← U.out, downL, dif_neg (by rw [A.out]; exact HA.out)]
   rw [← e]; exact H.out
end Go.Proofs.YthknocapablpaaaGreatDoor.Mg

/- container/heap's Push and Pop over merges.rows. -/
namespace Go.Proofs.YthknocapablpaaaGreatDoor.Mg
set_option maxRecDepth 100000
open Go.RowKit

set_option maxHeartbeats 2000000 in
theorem heap_push {w : World} {base p : Nat} {v : Value} {l : List Rw} {r : Rw} (h : HeapAt w base p v l) (hr : GoodR w r) (hrp : r.blk ≠ p) (hrv : v.ownBlock ≠ some r.blk) (hl : l.length < 100) (hb : base ≤ w.heap.size) :
  Calls Tryz.prog 299 #[.iface 394 (.pointer (some ⟨p, 0, none⟩)), .iface 396 (.agg #[.slice (some ⟨r.blk, r.off, none⟩) r.xs.length r.cap, .int .i64 r.place])] w fun e w' => e = .returned (.tuple #[]) ∧
   ∃ v', HeapAt w' base p v' (pushL ltR l r) ∧ Kept (mine p v) w w' ∧ (v'.ownBlock = v.ownBlock ∨ ∀ b, v'.ownBlock = some b → w.heap.size ≤ b) := by
 have hm := m_push p
 have H := Lib.hid h; have R := Lib.hid hr; have RP := Lib.hid hrp; have RV := Lib.hid hrv
 clear h hr hrp hrv
 go_enter Tryz.func299, Tryz.ntmps299
 go_wp2_with fail
 refine (rows_push H.out R.out RP.out RV.out hl hb).mono ?_
 rintro e w1 ⟨rfl, v1, h1, k1, a1⟩
 obtain ⟨q, hq⟩ : ∃ q, l ++ [r] = q := ⟨_, rfl⟩
 have hql : q.length = l.length + 1 := by rw [← hq]; simp
 rw [hq] at h1
 have hm1 := m_len p w1 v1 h1.cell
 obtain ⟨ao, cap, rfl⟩ := h1.slice
 have H1 := Lib.hid h1; have K1 := Lib.hid k1; have A1 := Lib.hid a1; have Q := Lib.hid hq; have QL := Lib.hid hql
 clear h1 k1 a1 hq hql
 go_wp2_with fail
 refine (len_rows _ ao q.length cap w1 rfl).mono ?_
 rintro e w2 ⟨rfl, rfl⟩
 have e3 : (q.length : Int) - 1 = (l.length : Int) := by have := QL.out; omega
 have e4 : wrap64 (l.length : Int) = (l.length : Int) := by unfold wrap64; omega
 go_wp2_with fail
 refine (up_w H1.out l.length (by have := QL.out; omega)).mono ?_
 rintro e w3 ⟨rfl, h3, k3⟩
 have H3 := Lib.hid h3; have K3 := Lib.hid k3; clear h3 k3
 go_wp2
 go_end0
 refine ⟨rfl, _, by unfold pushL; rw [Q.out]; exact H3.out, K1.out.trans K3.out (fun _ _ h => h) (fun b hb hk => ?_), A1.out⟩
 rcases A1.out with e | e
 ·exact .inr (e ▸ hk)
 ·have := e b hk; omega

set_option maxHeartbeats 2000000 in
theorem heap_pop {w : World} {base p : Nat} {v : Value} {l : List Rw} (h : HeapAt w base p v l) (hl : 0 < l.length) :
  Calls Tryz.prog 350 #[.iface 394 (.pointer (some ⟨p, 0, none⟩))] w fun e w' => e = .returned (.iface 396 (.agg #[.slice (some ⟨(nth l 0).blk, (nth l 0).off, none⟩) (nth l 0).xs.length (nth l 0).cap, .int .i64 (nth l 0).place])) ∧
   ∃ v', HeapAt w' base p v' (popL ltR l) ∧ Kept (mine p v) w w' ∧ v'.ownBlock = v.ownBlock := by
 have few := h.few
 obtain ⟨n, hn⟩ : ∃ n, l.length - 1 = n := ⟨_, rfl⟩
 have hm := m_len p w v h.cell
 have hne : l ≠ [] := fun e => by rw [e] at hl; simp at hl
 obtain ⟨ao, cap, rfl⟩ := h.slice
 have H := Lib.hid h; have N := Lib.hid hn; have NE := Lib.hid hne; clear h hn hne
 go_enter Tryz.func350, Tryz.ntmps350
 go_wp2_with fail
 refine (len_rows _ ao l.length cap w rfl).mono ?_
 rintro e w2 ⟨rfl, rfl⟩
 have e3 : (l.length : Int) - 1 = (n : Int) := by have := N.out; omega
 have e4 : wrap64 (n : Int) = (n : Int) := by have := N.out; unfold wrap64; omega
 have hm2 := m_swap p w _ H.out.cell
 go_wp2_with fail
 refine (swap_heap H.out 0 n hl (by have := N.out; omega)).mono ?_
 rintro e w3 ⟨rfl, h3, k3⟩
 have H3 := Lib.hid h3; have K3 := Lib.hid k3; clear h3 k3
 go_wp2_with fail
 refine (down_w H3.out n (by rw [length_swapL]; have := N.out; omega) (by rw [length_swapL]; exact hl)).mono ?_
 rintro e w4 ⟨⟨x, rfl⟩, h4, k4⟩
 have h5 : HeapAt w4 base p (.slice ao l.length cap) (sunkL ltR l) := by unfold sunkL; rw [N.out]; exact h4
 have H5 := Lib.hid h5; have K4 := Lib.hid (K3.out.trans k4 (fun _ _ h => h) (fun _ _ h => h)); clear h4 h5 k4
 have hm4 := m_pop p w4
 have hsl := length_sunk ltR NE.out
 have hlast := sunk_last ltR NE.out
 have SL := Lib.hid hsl; have LA := Lib.hid hlast; clear hsl hlast
 go_wp2_with fail
 refine (rows_pop H5.out (by rw [SL.out]; exact hl)).mono ?_
 rw [SL.out, LA.out]
 rintro e w5 ⟨rfl, v5, h5, k5, a5⟩
 have H6 := Lib.hid h5; have K6 := Lib.hid k5; have A6 := Lib.hid a5; clear h5 k5 a5
 go_wp2
 go_ret
 exact ⟨rfl, v5, H6.out, K4.out.trans K6.out (fun b _ hb => .inr hb) (fun _ _ h => h), A6.out⟩
end Go.Proofs.YthknocapablpaaaGreatDoor.Mg

/- slices.Clone of a row of cells; how rows of rows read. -/
namespace Go.Proofs.YthknocapablpaaaGreatDoor.Mg
set_option maxRecDepth 100000
open Go.RowKit

theorem inf36 : (Tryz.prog.info? 132).map (fun i => (i.zero, i.size, i.bytes)) = some (some (.agg #[.string ⟨#[]⟩, .int .i64 0, .string ⟨#[]⟩]), 3, 40) := by kernel_rfl

set_option maxHeartbeats 2000000 in
theorem clone_any (w : World) (v : Value) (R : List Cel) (h : ReadsC w v R) (hl : R.length ≤ 1000) (hne : 0 < R.length) :
  Calls Tryz.prog 96 #[v] w fun e w' => ∃ v', e = .returned v' ∧ w'.ownsRow w.heap.size 132 3 v' R.length (cellsC R) ∧ Kept (fun _ => False) w w' := by
 obtain ⟨i0, hi, hz0, hz1, hz2⟩ := info_parts inf36
 obtain ⟨ao, cap, rfl, h⟩ := h
 rcases h with h0 | ⟨g, o, rfl, hc⟩
 ·rw [h0] at hne; simp at hne
 have q25 : ∀ (w : World) (a : Option Addr) (n c n' c' : Nat), (binOp .eql 65 (.slice a n c) (.slice none n' c')).run Tryz.prog w = .ok (.bool a.isNone) w := fun w a n c n' c' => Lib.run_eql_slice_nil w _ _ a n c n' c' Tryz.underlying65
 have HC := Lib.hid hc; clear hc
 go_enter Tryz.func96, Tryz.ntmps96
 go_wp2_with (at_builtin; refine wpList_append_own _ rfl _ _ 65 rfl w.heap.size 132 i0 _ 3 40 Tryz.underlying65 hi hz0 hz1 hz2 rfl (by decide) _ _ _ rfl (World.ownsRow_made w #[] 0 (Nat.le_refl _) (Nat.zero_le _) rfl) ⟨g, o, none⟩ R.length cap (cellsC R) rfl ?qc1 ?qc2 ?qc3 ?qc4 ?qc5 ?qc6 ?_)
 case qc1 => exact cellsC_length R
 case qc2 =>
  intro j u hj
  rw [add_mid]
  have := HC.out j u hj
  exact (Below.cell ((Below.refl _ w).alloc (Nat.le_refl _) _) (World.block_lt_of_cell? _ _ this)).trans this
 case qc3 => exact cellsC_one R
 case qc4 => unfold maxLen; omega
 case qc5 => omega
 case qc6 => simp
 intro v' w1 hown hgrow hnil
 have HO := Lib.hid hown; have HG := Lib.hid hgrow; clear hown hgrow hnil
 go_wp2
 go_ret
 refine ⟨v', rfl, by simpa using HO.out, ((Kept.refl (fun _ => False) w).alloc _).grown HG.out (fun k hk hlt => ?_)⟩
 simp [Value.ownBlock] at hk; omega

/-- Rows of cells, as they lie. -/
def ReadsR (w : World) (v : Value) (L : List (List Cel)) : Prop :=
 ∃ ao cap, v = .slice ao L.length cap ∧ (L = [] ∨ ∃ g o, ao = some ⟨g, o, none⟩ ∧ ∀ k R, L[k]? = some R → ∃ u, w.cell? ⟨g, o + k, none⟩ = some u ∧ ReadsC w u R)
theorem ReadsC.keptF {w w' : World} {v : Value} {L : List Cel} (h : ReadsC w v L) (hK : Kept (fun _ => False) w w') : ReadsC w' v L := h.kept hK (fun _ _ f => f)
theorem ReadsR.keptF {w w' : World} {v : Value} {L : List (List Cel)} (h : ReadsR w v L) (hK : Kept (fun _ => False) w w') : ReadsR w' v L := by
 obtain ⟨ao, cap, rfl, h⟩ := h
 refine ⟨ao, cap, rfl, ?_⟩
 rcases h with h | ⟨g, o, rfl, hc⟩
 ·exact .inl h
 ·refine .inr ⟨g, o, rfl, fun k R hk => ?_⟩
  obtain ⟨u, h1, h2⟩ := hc k R hk
  exact ⟨u, hK.cell h1 (fun f => f), h2.keptF hK⟩
end Go.Proofs.YthknocapablpaaaGreatDoor.Mg

/- The order of cells, and of rows by their first cells: plain laws. -/
namespace Go.Proofs.YthknocapablpaaaGreatDoor.Mg
set_option maxRecDepth 100000
open Go.RowKit

structure IsCmp {α : Type} (c : α → α → Int) : Prop where
 anti : ∀ a b, c a b < 0 ↔ 0 < c b a
 tr : ∀ a b d, c a b ≤ 0 → c b d ≤ 0 → c a d ≤ 0

theorem IsCmp.zero {α : Type} {c : α → α → Int} (h : IsCmp c) (a b : α) : c a b = 0 ↔ c b a = 0 := by
 have h1 := h.anti a b
 have h2 := h.anti b a
 constructor <;> intro e <;> omega
theorem IsCmp.le {α : Type} {c : α → α → Int} (h : IsCmp c) (a b : α) : c a b ≤ 0 ↔ 0 ≤ c b a := by
 have h2 := h.anti b a
 omega
theorem IsCmp.lt_le {α : Type} {c : α → α → Int} (h : IsCmp c) {a b d : α} (h1 : c a b < 0) (h2 : c b d ≤ 0) : c a d < 0 := by
 have h3 := h.tr a b d (by omega) h2
 by_cases e : c a d = 0
 ·have e2 := (h.zero a d).1 e
  have h4 := h.tr b d a h2 (by omega)
  have h5 := (h.anti a b).1 h1
  omega
 ·omega
theorem IsCmp.le_lt {α : Type} {c : α → α → Int} (h : IsCmp c) {a b d : α} (h1 : c a b ≤ 0) (h2 : c b d < 0) : c a d < 0 := by
 have h3 := h.tr a b d h1 (by omega)
 by_cases e : c a d = 0
 ·have e2 := (h.zero a d).1 e
  have h4 := h.tr d a b (by omega) h1
  have h5 := (h.anti b d).1 h2
  omega
 ·omega
theorem IsCmp.or {α : Type} {c d : α → α → Int} (h : IsCmp c) (k : IsCmp d) : IsCmp (fun a b => or2 (c a b) (d a b)) := by
 refine ⟨fun a b => ?_, fun a b e => ?_⟩
 ·have h1 := h.anti a b; have h2 := h.anti b a; have h3 := h.zero a b; have h4 := k.anti a b
  simp only [or2]
  split <;> split <;> omega
 ·intro h1 h2
  simp only [or2] at *
  by_cases e1 : c a b = 0
  ·rw [if_pos e1] at h1
   by_cases e2 : c b e = 0
   ·rw [if_pos e2] at h2
    have e3 : c a e = 0 := by
     have q1 := h.tr a b e (by omega) (by omega)
     have q2 := h.tr e b a (by have := (h.zero b e).1 e2; omega) (by have := (h.zero a b).1 e1; omega)
     have q3 := (h.le e a).1 q2
     omega
    rw [if_pos e3]; exact k.tr _ _ _ h1 h2
   ·rw [if_neg e2] at h2
    have := h.le_lt (a := a) (b := b) (d := e) (by omega) (by omega)
    rw [if_neg (by omega)]; omega
  ·rw [if_neg e1] at h1
   by_cases e2 : c b e = 0
   ·have := h.lt_le (a := a) (b := b) (d := e) (by omega) (by omega)
    rw [if_neg (by omega)]; omega
   ·rw [if_neg e2] at h2
    have := h.lt_le (a := a) (b := b) (d := e) (by omega) (by omega)
    rw [if_neg (by omega)]; omega

theorem cmpI_is : IsCmp cmpI := by
 refine ⟨fun a b => ?_, fun a b d => ?_⟩
 ·simp only [cmpI]; repeat' split
  all_goals omega
 ·simp only [cmpI]; repeat' split
  all_goals omega
theorem cmpI_zero (a b : Int) : cmpI a b = 0 ↔ a = b := by
 simp only [cmpI]; repeat' split
 all_goals omega

theorem sLt_iff (x y : ByteArray) : sLt x y = true ↔ x.toList < y.toList := by
 unfold sLt; rw [bytesLess_eq]; simp
theorem sEq_iff (x y : ByteArray) : sEq x y = true ↔ x.toList = y.toList := by unfold sEq; simp
theorem cmpS_lt (x y : ByteArray) : cmpS x y < 0 ↔ x.toList < y.toList := by
 rw [← sLt_iff]; unfold cmpS
 cases h : sLt x y
 ·cases sEq x y <;> simp
 ·simp
theorem cmpS_zero (x y : ByteArray) : cmpS x y = 0 ↔ x = y := by
 unfold cmpS
 cases h : sLt x y with
 | true =>
  simp
  rintro rfl
  have := (sLt_iff x x).1 h
  exact absurd this (List.lt_irrefl _)
 | false =>
  cases h2 : sEq x y with
  | true => simp; exact bytes_eq ((sEq_iff x y).1 h2)
  | false =>
   simp
   rintro rfl
   rw [(sEq_iff x x).2 rfl] at h2; cases h2
theorem cmpS_gt (x y : ByteArray) : 0 < cmpS x y ↔ y.toList < x.toList := by
 have h1 := cmpS_lt x y
 have h0 := cmpS_zero x y
 have h3 : cmpS x y = -1 ∨ cmpS x y = 0 ∨ cmpS x y = 1 := by
  unfold cmpS; split
  ·exact .inl rfl
  ·split
   ·exact .inr (.inl rfl)
   ·exact .inr (.inr rfl)
 constructor
 ·intro h
  have n1 : ¬ x.toList < y.toList := fun f => by have := h1.2 f; omega
  have n2 : ¬ x.toList = y.toList := fun f => by have := h0.2 (bytes_eq f); omega
  have n3 : y.toList ≤ x.toList := List.not_lt.1 n1
  rcases List.le_iff_lt_or_eq.1 n3 with f | f
  ·exact f
  ·exact absurd f.symm n2
 ·intro h
  rcases h3 with e | e | e
  ·have := h1.1 (by omega)
   exact absurd this (List.lt_asymm h)
  ·have := h0.1 e
   subst this; exact absurd h (List.lt_irrefl _)
  ·omega
theorem cmpS_is : IsCmp cmpS := by
 refine ⟨fun a b => by rw [cmpS_lt, cmpS_gt], fun a b d h1 h2 => ?_⟩
 have n1 : ¬ b.toList < a.toList := fun f => by have := (cmpS_gt a b).2 f; omega
 have n2 : ¬ d.toList < b.toList := fun f => by have := (cmpS_gt b d).2 f; omega
 have n3 : a.toList ≤ d.toList := List.le_trans (List.not_lt.1 n1) (List.not_lt.1 n2)
 have n4 : ¬ 0 < cmpS a d := fun f => absurd ((cmpS_gt a d).1 f) (List.not_lt.2 n3)
 omega
theorem IsCmp.on {α β : Type} {c : β → β → Int} (h : IsCmp c) (f : α → β) : IsCmp (fun a b => c (f a) (f b)) := ⟨fun _ _ => h.anti _ _, fun _ _ _ => h.tr _ _ _⟩
theorem IsCmp.flip {α : Type} {c : α → α → Int} (h : IsCmp c) : IsCmp (fun a b => c b a) := ⟨fun _ _ => h.anti _ _, fun _ _ _ h1 h2 => h.tr _ _ _ h2 h1⟩
theorem cmpC_is : IsCmp cmpC := ((cmpS_is.on Cel.k).or ((cmpI_is.on Cel.s).flip))
theorem cmpC_zero (a b : Cel) : cmpC a b = 0 ↔ a.k = b.k ∧ a.s = b.s := by
 unfold cmpC or2
 have h1 := cmpS_zero a.k b.k
 have h2 := cmpI_zero b.s a.s
 split
 ·rename_i h; rw [h2]; constructor
  ·intro e; exact ⟨h1.1 h, e.symm⟩
  ·intro e; exact e.2.symm
 ·rename_i h; constructor
  ·intro e; exact absurd e h
  ·intro e; exact absurd (h1.2 e.1) h
/-- Rows by their first cells, then by their places. -/
def cmpR (a b : Rw) : Int := or2 (cmpC (nth a.xs 0) (nth b.xs 0)) (cmpI a.place b.place)
theorem cmpR_is : IsCmp cmpR := (cmpC_is.on (fun r : Rw => nth r.xs 0)).or (cmpI_is.on (fun r : Rw => (r.place : Int)))
theorem ltR_iff (a b : Rw) : ltR a b = true ↔ cmpR a b < 0 := by unfold ltR cmpR; simp
theorem ltR_false (a b : Rw) : ltR a b = false ↔ 0 ≤ cmpR a b := by
 rw [← Bool.not_eq_true, ltR_iff]; omega
theorem ltR_ord : Ordr ltR := by
 refine ⟨fun a b h => ?_, fun a b d h1 h2 => ?_⟩
 ·rw [ltR_iff] at h; rw [ltR_false]; have := (cmpR_is.anti a b).1 h; omega
 ·rw [ltR_false] at *
  have q1 := (cmpR_is.le a b).2 h1
  have q2 := (cmpR_is.le b d).2 h2
  have := cmpR_is.tr a b d q1 q2
  exact (cmpR_is.le a d).1 this
end Go.Proofs.YthknocapablpaaaGreatDoor.Mg

/- merges.New: the rows that have cells, as a heap. -/
namespace Go.Proofs.YthknocapablpaaaGreatDoor.Mg
set_option maxRecDepth 100000
open Go.RowKit

/-- The rows that have cells left, with their places. -/
def aliveF : Nat → List (List Cel) → List (Nat × List Cel)
 | _, [] => []
 | k, x :: t => if x.length = 0 then aliveF (k + 1) t else (k, x) :: aliveF (k + 1) t
theorem aliveF_append : ∀ (k : Nat) (a : List (List Cel)) (x : List Cel), aliveF k (a ++ [x]) = aliveF k a ++ (if x.length = 0 then [] else [(k + a.length, x)])
 | k, [], x => by simp [aliveF]
 | k, y :: t, x => by
  simp only [List.cons_append, aliveF, aliveF_append (k + 1) t x]
  split <;> simp [Nat.add_comm, Nat.add_left_comm]
theorem aliveF_length : ∀ (k : Nat) (a : List (List Cel)), (aliveF k a).length ≤ a.length
 | _, [] => Nat.le_refl _
 | k, y :: t => by
  simp only [aliveF]
  have := aliveF_length (k + 1) t
  split <;> simp <;> omega

def Rw.key (r : Rw) : Nat × List Cel := (r.place, r.xs)

/-- An iterator that stands at block p. -/
structure ItAt (w : World) (base p : Nat) (v : Value) (l : List Rw) : Prop where
 heap : HeapAt w base p v l
 hp : Heap ltR l.length l
 above : base ≤ p ∧ ∀ r ∈ l, base ≤ r.blk
theorem ItAt.kept {w w' : World} {base p : Nat} {v : Value} {l : List Rw} (h : ItAt w base p v l) (hK : Kept (fun _ => False) w w') : ItAt w' base p v l := ⟨h.heap.kept hK, h.hp, h.above⟩
theorem ItAt.mine {w : World} {base p : Nat} {v : Value} {l : List Rw} (h : ItAt w base p v l) : ∀ b, mine p v b → base ≤ b := by
 rintro b (rfl | e)
 ·exact h.above.1
 ·exact (h.heap.own.lt b e).1

theorem nil_heap : Heap ltR ([] : List Rw).length [] := by intro k _ h; simp at h
theorem own_some {w : World} {base : Nat} {v : Value} {R : List Cel} (h : w.ownsRow base 132 3 v R.length (cellsC R)) (hne : 0 < R.length) :
  ∃ b cap, v = .slice (some ⟨b, 0, none⟩) R.length cap ∧ R.length ≤ cap ∧ base ≤ b ∧ b < w.heap.size ∧ ∀ j u, (cellsC R)[j]? = some u → w.cell? ⟨b, j, none⟩ = some u := by
 rcases row_form h with ⟨_, h0⟩ | ⟨g, cap, rfl, h1, h2, h3, h4⟩
 ·omega
 ·exact ⟨g, cap, rfl, h1, h2, h3, h4⟩

set_option maxRecDepth 100000 in
set_option maxHeartbeats 4000000 in
theorem new_any (w : World) (v0 : Value) (L : List (List Cel)) (h : ReadsR w v0 L) (hL : L.length ≤ 50) (hl : ∀ R ∈ L, R.length ≤ 1000) :
  Calls Tryz.prog 214 #[v0] w fun e w' => Kept (fun _ => False) w w' ∧
   ((L.all sortedB = false ∧ e = .returned (.tuple #[.pointer none, .int .i64 2])) ∨
    (L.all sortedB = true ∧ ∃ p v l, e = .returned (.tuple #[.pointer (some ⟨p, 0, none⟩), .int .i64 0]) ∧ ItAt w' w.heap.size p v l ∧ (l.map Rw.key).Perm (aliveF 0 L))) := by
 obtain ⟨ao, cap, rfl, h⟩ := h
 have HR := Lib.hid h; have HL := Lib.hid hl; clear h hl
 go_enter Tryz.func214, Tryz.ntmps214
 go_wp2
 go_loopg [11] L.length (fun g t wr => ∃ k : Nat, k + g = L.length ∧ t = .int .i64 k ∧ Kept (fun b => w.heap.size ≤ b) w wr ∧ (L.take k).all sortedB = true ∧ ∃ v l, ItAt wr w.heap.size w.heap.size v l ∧ (l.map Rw.key).Perm (aliveF 0 (L.take k)))
 case atStart =>
  refine ⟨0, by omega, rfl, ((Kept.refl _ w).alloc _), by simp, .slice none 0 0, [], ⟨⟨by simp [go_sem], by simp [go_sem], World.ownsRow_nil _ _ _ _, by simp, by simp [Value.ownBlock], by simp, by simp⟩, nil_heap, Nat.le_refl _, by simp⟩, by simp [aliveF]⟩
 case round =>
  obtain ⟨k, hk, rfl, KW, hall, v, l, hit, hperm⟩ := hrel
  have hk1 : k ≤ L.length := by omega
  have J := Lib.hid hk; have KW0 := Lib.hid KW; have AL := Lib.hid hall; have IT := Lib.hid hit; have PE := Lib.hid hperm
  have KF := Lib.hid (KW.mono (T := fun _ => False) (fun k hk h => by omega))
  clear hk KW hall hit hperm
  by_cases hlt : k < L.length
  ·rcases HR.out with h0 | ⟨g, o, rfl, hc⟩
   ·rw [h0] at hlt; simp at hlt
   obtain ⟨R, hR⟩ : ∃ R, L[k]? = some R := ⟨_, List.getElem?_eq_getElem hlt⟩
   obtain ⟨u, hu, hru⟩ := hc k R hR
   have hu2 := KF.out.cell hu (fun f => f)
   have hrl := HL.out R (List.mem_of_getElem? hR)
   have RU := Lib.hid (hru.keptF KF.out); have RG := Lib.hid hR; have RL := Lib.hid hrl
   have htk : L.take (k + 1) = L.take k ++ [R] := by rw [List.take_add_one, hR]; rfl
   have TK := Lib.hid htk
   clear hc hu hru hR hrl htk
   have i1 : (0 : Int) ≤ (k : Int) := by omega
   have i2 : (k : Int) < (L.length : Int) := by omega
   cases hs : sortedB R with
   | false =>
    go_wp2_with (go_at_call 298; refine (sorted_any _ u R (RU.out) (RL.out)).mono ?_; rw [hs]; rintro e w4 ⟨rfl, K4⟩; (have KK4 := Lib.hid K4); clear K4)
    refine bodyPost_ret (v := _) (by simp [results, Tryz.results214, go_sem]; try rfl) rfl ?_
    refine ⟨KF.out.trans KK4.out (fun _ _ h => h) (fun _ _ h => h), .inl ⟨?_, rfl⟩⟩
    cases ha : L.all sortedB with
    | false => rfl
    | true =>
     have := List.all_eq_true.1 ha R (List.mem_of_getElem? RG.out)
     rw [hs] at this; cases this
   | true =>
    have hall1 : (L.take (k + 1)).all sortedB = true := by rw [TK.out, List.all_append, AL.out]; simp [hs]
    have AL1 := Lib.hid hall1; have HS := Lib.hid hs; clear hall1 hs
    obtain ⟨ao2, cap2, rfl, hru⟩ := RU.out
    by_cases hpos : 0 < R.length
    ·have hp1 : (0 : Int) < (R.length : Int) := by omega
     have PO := Lib.hid hpos; clear hru
     go_upto_region 8 with (go_at_call 298; refine (sorted_any _ (Value.slice ao2 R.length cap2) R (RU.out) (RL.out)).mono ?_; rw [HS.out]; rintro e w4 ⟨rfl, K4⟩; (have KK0 := Lib.hid K4); clear K4)
     refine wp_region_held_drew (S := (fun _ => True)) (by kernel_rfl) ?_ (fun hHeld => ?_)
     ·trivial
     refine tW 0 opAt0 hHeld ?_
     (try simp only [Act.put]); try simp only [z2, List.set]
     refine tW 1 opAt1 hHeld ?_
     (try simp only [Act.put]); try simp only [z2, List.set]
     refine tW 2 opAt2 hHeld ?_
     (try simp only [Act.put]); try simp only [z2, List.set]
     refine tW 3 opAt3 hHeld ?_
     (try simp only [Act.put]); try simp only [z2, List.set]
     refine tW 4 opAt4 hHeld ?_
     (try simp only [Act.put]); try simp only [z2, List.set]
     refine tW 6 opAt6 hHeld ?_
     (try simp only [Act.put]); try simp only [z2, List.set]
     refine wpAnyH_ready (rs := [5]) (by kernel_rfl) (by simp) ?_
     refine AllReadyH.cons opAt5 (fun K hK => ?_) AllReadyH.nil
     go_simp
     go_at_call 96; refine (clone_any _ (Value.slice ao2 R.length cap2) R (RU.out.keptF KK0.out.drew) (RL.out) (PO.out)).mono ?_; rintro e w6 ⟨v4, rfl, o4, K4⟩; obtain ⟨b4, cap4, rfl, fit4, ge4, lt4, c4⟩ := own_some o4 PO.out; have O4 := Lib.hid o4; have KK4 := Lib.hid ((KK0.out.drew).trans K4 (fun _ _ h => h) (fun _ _ h => h)); have g4 : wr.heap.size ≤ b4 := Nat.le_trans KK0.out.size ge4; have C4 := Lib.hid c4; clear o4 K4 c4; dsimp only
     refine hK.out _ _ ?_ (fun hHeld => ?_)
     ·trivial
     clear hK K
     (try simp only [Act.put]); try simp only [z2, List.set]
     refine tW 7 opAt7 hHeld ?_
     (try simp only [Act.put]); try simp only [z2, List.set]
     refine tW 8 opAt8 hHeld ?_
     (try simp only [Act.put]); try simp only [z2, List.set]
     refine wpAnyH_ready (rs := [9]) (by kernel_rfl) (by simp) ?_
     refine AllReadyH.cons opAt9 (fun K hK => ?_) AllReadyH.nil
     go_simp
     go_at_call 299; refine (heap_push (r := ⟨b4, 0, cap4, R, k⟩) ((IT.out.heap.kept KK4.out)) ⟨PO.out, RL.out, fit4, by show k ≤ 1000; omega, fun j u hu => by rw [Nat.zero_add]; exact C4.out j u hu⟩ (fun e => by have h1 : b4 = w.heap.size := e; have := KW0.out.size; have h2 := IT.out.heap.cell; have := World.block_lt_of_cell? _ _ h2; simp only at this; omega) (fun e => by have := (IT.out.heap.own.lt b4 e).2; omega) (by have h1 := PE.out.length_eq; rw [List.length_map] at h1; have h2 := aliveF_length 0 (L.take k); rw [List.length_take] at h2; omega) (by have := KW0.out.size; have := KK4.out.size; omega)).mono ?_; rintro e w5 ⟨rfl, v5, h5, k5, a5⟩; have H5 := Lib.hid h5; have K5 := Lib.hid k5; clear h5 k5 a5; dsimp only
     refine hK.out _ _ ?_ (fun hHeld => ?_)
     ·trivial
     clear hK K
     (try simp only [Act.put]); try simp only [z2, List.set]
     refine wpAnyH_done (by kernel_rfl) ?_ _
     go_wp2
     go_roundg (gk - 1)
     case measure => have := J.out; omega
     case rel =>
      refine ⟨k + 1, by have := J.out; omega, by go_num, (KW0.out.trans KK4.out (fun _ _ h => h) (fun _ _ f => f.elim)).trans K5.out (fun _ _ h => h) (fun b _ hb => (IT.out.kept KK4.out).mine b hb), AL1.out, v5, _, ⟨H5.out, push_heap ltR ltR_ord _ IT.out.hp, Nat.le_refl _, fun r hr => ?_⟩, ?_⟩
      ·rcases List.mem_cons.1 ((push_perm ltR l _).mem_iff.1 hr) with rfl | hr
       ·show w.heap.size ≤ b4; have := KW0.out.size; omega
       ·exact IT.out.above.2 r hr
      ·rw [TK.out, aliveF_append, if_neg (by omega)]
       have q1 := (push_perm ltR l (⟨b4, 0, cap4, R, k⟩ : Rw)).map Rw.key
       refine q1.trans ?_
       have e1 : 0 + (L.take k).length = k := by rw [List.length_take]; omega
       rw [e1]
       exact ((PE.out.cons (k, R)).trans (List.perm_append_singleton _ _).symm)
    ·have hp1 : ¬ (0 : Int) < (R.length : Int) := by omega
     have hp0 : R.length = 0 := by omega
     have P0 := Lib.hid hp0; clear hp0 hpos hru
     go_wp2_with (go_at_call 298; refine (sorted_any _ (Value.slice ao2 R.length cap2) R (RU.out) (RL.out)).mono ?_; rw [HS.out]; rintro e w4 ⟨rfl, K4⟩; (have KK4 := Lib.hid K4); clear K4)
     go_roundg (gk - 1)
     case measure => have := J.out; omega
     case rel => exact ⟨k + 1, by have := J.out; omega, by go_num, KW0.out.trans KK4.out (fun _ _ h => h) (fun _ _ f => f.elim), AL1.out, v, l, IT.out.kept KK4.out, by rw [TK.out, aliveF_append, if_pos P0.out, List.append_nil]; exact PE.out⟩
  ·have hk2 : k = L.length := by omega
   have e0 : ¬ (k : Int) < (L.length : Int) := by omega
   have K2 := Lib.hid hk2; clear hk2
   go_wp2
   refine bodyPost_ret (v := _) (by simp [results, Tryz.results214, go_sem]; try rfl) rfl ?_
   refine ⟨KF.out, .inr ⟨?_, _, rfl, v, l, IT.out, ?_⟩⟩
   ·have := AL.out; rw [K2.out, List.take_length] at this; first | exact this | exact List.all_eq_true.1 this
   ·have := PE.out; rwa [K2.out, List.take_length] at this
end Go.Proofs.YthknocapablpaaaGreatDoor.Mg

/- merges.Iter.Next: the cell that comes first. -/
namespace Go.Proofs.YthknocapablpaaaGreatDoor.Mg
set_option maxRecDepth 100000
open Go.RowKit

/-- A row behind its first cell. -/
def Rw.tl (r : Rw) : Rw := ⟨r.blk, r.off + 3, r.cap - 1, r.xs.tail, r.place⟩
/-- The heap behind a cell that has come. -/
def nextL (l : List Rw) : List Rw := if 1 < (nth l 0).xs.length then pushL ltR (popL ltR l) (nth l 0).tl else popL ltR l

theorem slice_one (g o len cap : Nat) (h1 : 0 < len) (h2 : len ≤ cap) : ∃ X : Addr, (1 < len → X = ⟨g, o + 3, none⟩) ∧
  ∀ w, (Instr.slice 65 (.slice (some ⟨g, o, none⟩) len cap) (some (.int .i64 1)) none none).run Tryz.prog w = .ok (.slice (some X) (len - 1) (cap - 1)) w := by
 have i2 : (1 : Int) ≤ (len : Int) := by omega
 have i3 : (len : Int) ≤ (cap : Int) := by omega
 by_cases hc : cap = 1
 ·have hl : len = 1 := by omega
  subst hl; subst hc
  exact ⟨⟨g, o, none⟩, fun h => by omega, fun w => by simp [go_sem]⟩
 ·exact ⟨⟨g, o + 3, none⟩, fun _ => rfl, fun w => by simp [go_sem, hc, i2]⟩

theorem GoodR.tail {w : World} {r : Rw} (h : GoodR w r) (h1 : 1 < r.xs.length) : GoodR w r.tl := by
 obtain ⟨c, t, ht⟩ : ∃ c t, r.xs = c :: t := by
  cases hx : r.xs with
  | nil => rw [hx] at h1; simp at h1
  | cons c t => exact ⟨c, t, rfl⟩
 refine ⟨?_, ?_, ?_, h.pl, fun j u hu => ?_⟩
 ·show 0 < r.xs.tail.length; rw [List.length_tail]; omega
 ·show r.xs.tail.length ≤ 1000; have := h.len; rw [List.length_tail]; omega
 ·show r.xs.tail.length ≤ r.cap - 1; have := h.fit; rw [List.length_tail]; omega
 ·have h2 := h.at_ (3 + j) u (by
   have e : r.tl.xs = t := by show r.xs.tail = t; rw [ht]; rfl
   rw [e] at hu
   rw [ht]
   show (Value.string c.k :: .int .i64 c.s :: .string c.v :: cellsC t)[3 + j]? = some u
   rw [show 3 + j = j + 1 + 1 + 1 by omega]
   simpa using hu)
  show w.cell? ⟨r.blk, r.off + 3 + j, none⟩ = some u
  rw [show r.off + 3 + j = r.off + (3 + j) by omega]; exact h2

set_option maxHeartbeats 2000000 in
theorem next_none {w : World} {base p : Nat} {v : Value} {l : List Rw} (h : HeapAt w base p v l) (hl : l.length = 0) :
  Calls Tryz.prog 301 #[.pointer (some ⟨p, 0, none⟩)] w fun e w' => e = .returned (.tuple #[.agg #[.string ⟨#[]⟩, .int .i64 0, .string ⟨#[]⟩], .bool false]) ∧ Kept (fun _ => False) w w' := by
 have hc := h.cell
 have hlt := World.block_lt_of_cell? _ _ hc
 simp only at hlt
 obtain ⟨ao, cap, rfl⟩ := h.slice
 have h0 : ((l.length : Nat) : Int) = 0 := by rw [hl]; rfl
 rw [hl] at hc
 clear h hl h0
 go_enter Tryz.func301, Tryz.ntmps301
 go_wp2
 refine bodyPost_ret (v := _) (by simp [results, Tryz.results301, go_sem]; try rfl) rfl ?_
 refine ⟨rfl, ?_⟩
 repeat (first | exact Kept.refl _ _ | apply Kept.alloc | apply Kept.drew | (refine Kept.setAt (fun hh => absurd hh (by simp)) ?_))

theorem HeapAt.keptS {S : Nat → Prop} {w w' : World} {base p : Nat} {v : Value} {l : List Rw} (h : HeapAt w base p v l) (hK : Kept S w w') (hp : ¬ S p) (hv : ∀ b, v.ownBlock = some b → ¬ S b) (hr : ∀ r ∈ l, ¬ S r.blk) : HeapAt w' base p v l := by
 refine ⟨hK.cell h.cell hp, hK.frozen h.fz (World.block_lt_of_cell? _ _ h.cell) hp, ?_, fun r hm => (h.good r hm).kept hK (hr r hm), h.np, h.nr, h.few⟩
 obtain ⟨h1, h2⟩ := h.own
 refine ⟨h1, ?_⟩
 rcases h2 with h2 | ⟨g, cap, cur, rfl, hb, hg, rest⟩
 ·exact .inl h2
 ·exact .inr ⟨g, cap, cur, rfl, hb, (hK.block g (Array.getElem?_eq_some_iff.1 hg).1 (hv g rfl)).trans hg, rest⟩

set_option maxRecDepth 100000 in
set_option maxHeartbeats 4000000 in
theorem next_some {w : World} {base p : Nat} {v : Value} {l : List Rw} (h : ItAt w base p v l) (hl : 0 < l.length) (hb : base ≤ w.heap.size) :
  Calls Tryz.prog 301 #[.pointer (some ⟨p, 0, none⟩)] w fun e w' => e = .returned (.tuple #[.agg #[.string (nth (nth l 0).xs 0).k, .int .i64 (nth (nth l 0).xs 0).s, .string (nth (nth l 0).xs 0).v], .bool true]) ∧
   ∃ v', ItAt w' base p v' (nextL l) ∧ Kept (mine p v) w w' ∧ (v'.ownBlock = v.ownBlock ∨ ∀ b, v'.ownBlock = some b → w.heap.size ≤ b) := by
 have hc := h.heap.cell
 have hlt := World.block_lt_of_cell? _ _ hc
 simp only at hlt
 obtain ⟨ao, cap, rfl⟩ := h.heap.slice
 have hne : ¬ (l.length = 0) := by omega
 have hne2 : ¬ ((l.length : Nat) : Int) = 0 := by omega
 have hl0 : l ≠ [] := fun e => by rw [e] at hl; simp at hl
 obtain ⟨r, hr⟩ : ∃ r, nth l 0 = r := ⟨_, rfl⟩
 have hrg := h.heap.good r (hr ▸ nth_mem hl)
 have hrn := h.heap.nr r (hr ▸ nth_mem hl)
 have hab := h.above.2 r (hr ▸ nth_mem hl)
 have hta := assert58
 have HP := Lib.hid (pop_heap ltR ltR_ord hl0 h.hp)
 have PP := Lib.hid (pop_perm ltR hl0)
 have H := Lib.hid h; have R := Lib.hid hr; have RG := Lib.hid hrg; have RN := Lib.hid hrn; have RA := Lib.hid hab; have NE := Lib.hid hl0
 clear h hrg hrn hab hl0
 rw [hr]
 clear hr
 obtain ⟨c, hc0⟩ : ∃ c, nth r.xs 0 = c := ⟨_, rfl⟩
 rw [hc0]
 have HC := Lib.hid hc0; clear hc0
 go_enter Tryz.func301, Tryz.ntmps301
 go_wp2_with fail
 refine (heap_pop (H.out.heap.kept ((Kept.refl (fun _ => False) w).alloc _)) hl).mono ?_
 rw [R.out]
 rintro e w1 ⟨rfl, v1, h1, k1, a1⟩
 have hn2 : ¬ mine p (.slice ao l.length cap) w.heap.size := by
  rintro (e | e)
  ·omega
  ·have := (H.out.heap.own.lt _ e).2; omega
 obtain ⟨f0, f1, f2, ff, fl⟩ := k1.fresh3 hn2
 have kw1 : Kept (mine p (.slice ao l.length cap)) w w1 := ((Kept.refl (fun _ => False) w).alloc _).trans k1 (fun _ _ f => f.elim) (fun _ _ h => h)
 have hmr : ¬ mine p (.slice ao l.length cap) r.blk := by
  rintro (e | e)
  ·exact RN.out.1 e
  ·exact RN.out.2 e
 have g1 := RG.out.kept kw1 hmr
 obtain ⟨c0, c1, c2⟩ := g1.hd
 have hrl := World.block_lt_of_cell? _ _ c0
 simp only at hrl
 obtain ⟨m, hm⟩ : ∃ m, r.xs.length - 1 = m := ⟨_, rfl⟩
 obtain ⟨X, hX, hsl⟩ := slice_one r.blk r.off r.xs.length r.cap g1.ne g1.fit
 rw [hm] at hsl
 have j1 : (0 : Int) < (r.xs.length : Int) := by have := g1.ne; omega
 rw [HC.out] at c0 c1 c2
 obtain ⟨fz0, fz1, fz2⟩ : w1.frozen? ⟨w.heap.size, 0, none⟩ = false ∧ w1.frozen? ⟨w.heap.size, 1, none⟩ = false ∧ w1.frozen? ⟨w.heap.size, 2, none⟩ = false := ⟨ff 0, ff 1, ff 2⟩
 have H1 := Lib.hid h1; have K1 := Lib.hid kw1; have A1 := Lib.hid a1; have G1 := Lib.hid g1; have M := Lib.hid hm; have XX := Lib.hid hX
 have NM := Lib.hid hn2
 clear h1 k1 kw1 a1 g1 hm hX hn2 hmr ff hc
 have xne : w.heap.size ≠ w1.heap.size := by omega
 by_cases hm0 : m = 0
 ·have e0 : ¬ (0 : Int) < (m : Int) := by omega
  have M0 := Lib.hid hm0; clear hm0
  go_wp2
  refine bodyPost_ret (v := _) (by simp [results, Tryz.results301, go_sem, f0, f1, f2, fl, Nat.lt_succ_of_lt fl]; try rfl) rfl ?_
  refine ⟨rfl, v1, ?_, ?_, .inl A1.out⟩
  ·have kF : Kept (fun b => w.heap.size = b) w1 (((((w1.setCell ⟨w.heap.size, 0, none⟩ (.string c.k)).setCell ⟨w.heap.size, 1, none⟩ (.int .i64 c.s)).setCell ⟨w.heap.size, 2, none⟩ (.string c.v)).alloc (.cells #[.slice (some X) m (r.cap - 1), .int .i64 r.place] 396)).alloc (.cells #[.string c.k, .int .i64 c.s, .string c.v] 132)) :=
    Kept.alloc (Kept.alloc (Kept.setAt (fun _ => rfl) (Kept.setAt (fun _ => rfl) (Kept.setAt (fun _ => rfl) (Kept.refl _ w1)))) _) _
   have e : nextL l = popL ltR l := by unfold nextL; rw [R.out, if_neg (by have := M.out; have := M0.out; omega)]
   rw [e]
   exact ⟨H1.out.keptS kF (by omega) (fun b hb e => by rw [A1.out] at hb; have := (H.out.heap.own.lt _ hb).2; omega) (fun x hx e => by
     have hx2 : x ∈ l := PP.out.mem_iff.1 (List.mem_cons_of_mem _ hx)
     have := World.block_lt_of_cell? _ _ (H.out.heap.good x hx2).hd.1
     simp only at this; omega), HP.out, H.out.above.1, fun x hx => H.out.above.2 x (PP.out.mem_iff.1 (List.mem_cons_of_mem _ hx))⟩
  ·exact K1.out.trans (S' := fun b => w.heap.size = b) (Kept.alloc (Kept.alloc (Kept.setAt (fun _ => rfl) (Kept.setAt (fun _ => rfl) (Kept.setAt (fun _ => rfl) (Kept.refl _ w1)))) _) _) (fun _ _ h => h) (fun i hi e => by omega)
 ·have e0 : (0 : Int) < (m : Int) := by omega
  have hX1 := XX.out (by have := M.out; omega)
  subst hX1
  have M0 := Lib.hid hm0; clear hm0
  have htl : r.tl.xs.length = m := by show r.xs.tail.length = m; rw [List.length_tail]; exact M.out
  have TL := Lib.hid htl; clear htl
  have NM1 : ¬ mine p v1 w.heap.size := fun e => NM.out (e.imp id (fun h => by rw [← A1.out]; exact h))
  have NM5 : ¬ mine p v1 (w1.heap.size + 1) := by
   rintro (e | e)
   ·omega
   ·have := (H1.out.own.lt _ e).2; omega
  have HN1 := Lib.hid NM1; have HN5 := Lib.hid NM5; clear NM1 NM5
  go_upto_region 7 with fail
  refine wp_region_held_drew (S := (fun w' => w'.cell? ⟨w1.heap.size, 0, none⟩ = some (.slice (some ⟨r.blk, r.off + 3, none⟩) m (r.cap - 1)) ∧ w'.cell? ⟨w1.heap.size, 1, none⟩ = some (.int .i64 r.place))) (by kernel_rfl) ?_ (fun hHeld => ?_)
  ·first | go_keep | (go_split_ands; (simp [go_sem, *]; done))
  refine tW 0 opAt0 hHeld ?_
  (try simp only [Act.put]); try simp only [z2, List.set]
  refine tW 1 opAt1 hHeld ?_
  (try simp only [Act.put]); try simp only [z2, List.set]
  refine tW 2 opAt2 hHeld ?_
  (try simp only [Act.put]); try simp only [z2, List.set]
  refine tW 3 opAt3 hHeld ?_
  (try simp only [Act.put]); try simp only [z2, List.set]
  refine tW 4 opAt4 hHeld ?_
  (try simp only [Act.put]); try simp only [z2, List.set]
  refine tW 5 opAt5 hHeld ?_
  (try simp only [Act.put]); try simp only [z2, List.set]
  refine wpAnyH_ready (rs := [6]) (by kernel_rfl) (by simp) ?_
  refine AllReadyH.cons opAt6 (fun K hK => ?_) AllReadyH.nil
  go_simp
  go_at_call 299; have hp := heap_push (r := r.tl) (H1.out.kept (Kept.drew (Kept.alloc (Kept.alloc (Kept.refl (fun _ => False) w1) (.cells #[.slice (some ⟨r.blk, r.off + 3, none⟩) m (r.cap - 1), .int .i64 r.place] 396)) (.cells #[.string c.k, .int .i64 c.s, .string c.v] 132)))) ((G1.out.tail (by have := M.out; have := M0.out; omega)).kept (Kept.drew (Kept.alloc (Kept.alloc (Kept.refl (fun _ => False) w1) (.cells #[.slice (some ⟨r.blk, r.off + 3, none⟩) m (r.cap - 1), .int .i64 r.place] 396)) (.cells #[.string c.k, .int .i64 c.s, .string c.v] 132))) (fun f => f)) RN.out.1 (by rw [A1.out]; exact RN.out.2) (by rw [length_pop ltR NE.out]; have := H.out.heap.few; omega) (by have := K1.out.size; simp; omega); rw [TL.out] at hp; refine hp.mono ?_; clear hp; rintro e w5 ⟨rfl, v5, h5, k5, a5⟩; have H5 := Lib.hid h5; have K5 := Lib.hid k5; have A5 := Lib.hid a5; clear h5 k5 a5; have q0 := K5.out.cell (a := ⟨w1.heap.size + 1, 0, none⟩) (v := .string c.k) (by simp [go_sem]) HN5.out; have q1 := K5.out.cell (a := ⟨w1.heap.size + 1, 1, none⟩) (v := .int .i64 c.s) (by simp [go_sem]) HN5.out; have q2 := K5.out.cell (a := ⟨w1.heap.size + 1, 2, none⟩) (v := .string c.v) (by simp [go_sem]) HN5.out; have s0 := K5.out.cell (a := ⟨w.heap.size, 0, none⟩) (v := .string ⟨#[]⟩) (by simp [go_sem, f0, fl]) HN1.out; have t0 := K5.out.frozen (a := ⟨w.heap.size, 0, none⟩) (by simp [go_sem, fz0, fl]) (by simp; omega) HN1.out; have s1 := K5.out.cell (a := ⟨w.heap.size, 1, none⟩) (v := .int .i64 0) (by simp [go_sem, f1, fl]) HN1.out; have t1 := K5.out.frozen (a := ⟨w.heap.size, 1, none⟩) (by simp [go_sem, fz1, fl]) (by simp; omega) HN1.out; have s2 := K5.out.cell (a := ⟨w.heap.size, 2, none⟩) (v := .string ⟨#[]⟩) (by simp [go_sem, f2, fl]) HN1.out; have t2 := K5.out.frozen (a := ⟨w.heap.size, 2, none⟩) (by simp [go_sem, fz2, fl]) (by simp; omega) HN1.out; dsimp only
  refine hK.out _ _ ?_ (fun hHeld => ?_)
  ·exact ⟨K5.out.cell hHeld.1 (show ¬ mine p v1 w1.heap.size by rintro (e | e); exact absurd e (by omega); have := (H1.out.own.lt _ e).2; omega), K5.out.cell hHeld.2 (show ¬ mine p v1 w1.heap.size by rintro (e | e); exact absurd e (by omega); have := (H1.out.own.lt _ e).2; omega)⟩
  clear hK K
  (try simp only [Act.put]); try simp only [z2, List.set]
  refine wpAnyH_done (by kernel_rfl) ?_ _
  go_wp2
  refine bodyPost_ret (v := _) (by simp [results, Tryz.results301, go_sem, s0, s1, s2]; try rfl) rfl ?_
  have kF : Kept (fun b => w.heap.size = b) w5 (((w5.setCell ⟨w.heap.size, 0, none⟩ (.string c.k)).setCell ⟨w.heap.size, 1, none⟩ (.int .i64 c.s)).setCell ⟨w.heap.size, 2, none⟩ (.string c.v)) :=
   Kept.setAt (fun _ => rfl) (Kept.setAt (fun _ => rfl) (Kept.setAt (fun _ => rfl) (Kept.refl _ w5)))
  have kW : Kept (fun _ => False) w1 ((w1.alloc (.cells #[.slice (some ⟨r.blk, r.off + 3, none⟩) m (r.cap - 1), .int .i64 r.place] 396)).alloc (.cells #[.string c.k, .int .i64 c.s, .string c.v] 132)).drew := Kept.drew (Kept.alloc (Kept.alloc (Kept.refl _ w1) _) _)
  have hA5 : v5.ownBlock = v1.ownBlock ∨ ∀ b, v5.ownBlock = some b → w1.heap.size ≤ b := A5.out.imp id (fun h b hb => Nat.le_trans kW.size (h b hb))
  have hkeep : Kept (mine p (.slice ao l.length cap)) w w5 := (K1.out.trans kW (fun _ _ h => h) (fun _ _ f => f.elim)).trans K5.out (fun _ _ h => h) (fun b _ hb => hb.imp id (fun h => by rw [← A1.out]; exact h))
  have hm5 : ∀ x, x ∈ pushL ltR (popL ltR l) r.tl → x = r.tl ∨ x ∈ l := fun x hx => by
   rcases List.mem_cons.1 ((push_perm ltR _ _).mem_iff.1 hx) with e | e
   ·exact .inl e
   ·exact .inr (PP.out.mem_iff.1 (List.mem_cons_of_mem _ e))
  have e : nextL l = pushL ltR (popL ltR l) r.tl := by unfold nextL; rw [R.out, if_pos (by have := M.out; have := M0.out; omega)]
  refine ⟨rfl, v5, ?_, hkeep.trans kF (fun _ _ h => h) (fun i hi e => by omega), ?_⟩
  ·rw [e]
   refine ⟨H5.out.keptS kF (by omega) (fun b hb e => ?_) (fun x hx e => ?_), push_heap ltR ltR_ord _ HP.out, H.out.above.1, fun x hx => ?_⟩
   ·rcases hA5 with h5 | h5
    ·rw [h5, A1.out] at hb; have := (H.out.heap.own.lt _ hb).2; omega
    ·have := h5 b hb; omega
   ·rcases hm5 x hx with rfl | hx
    ·have := World.block_lt_of_cell? _ _ RG.out.hd.1
     have e2 : w.heap.size = r.blk := e
     simp only at this; omega
    ·have := World.block_lt_of_cell? _ _ (H.out.heap.good x hx).hd.1
     simp only at this; omega
   ·rcases hm5 x hx with rfl | hx
    ·exact RA.out
    ·exact H.out.above.2 x hx
  ·rcases hA5 with h5 | h5
   ·exact .inl (h5.trans A1.out)
   ·exact .inr fun b hb => Nat.le_trans K1.out.size (h5 b hb)
end Go.Proofs.YthknocapablpaaaGreatDoor.Mg

/- merges.Iter.each: the iterator over the cells that come, against whatever loop. -/
namespace Go.Proofs.YthknocapablpaaaGreatDoor.Mg
set_option maxRecDepth 100000
open Go.RowKit
attribute [local go_sem] Oper.semAt_some

/-- How many cells are left in all. -/
def sumL (l : List Rw) : Nat := (l.map (fun r => r.xs.length)).sum
/-- The cells that come, one by one. -/
def drainL : Nat → List Rw → List Cel
 | 0, _ => []
 | f + 1, l => if l.length = 0 then [] else nth (nth l 0).xs 0 :: drainL f (nextL l)

theorem sumL_perm {a b : List Rw} (h : a.Perm b) : sumL a = sumL b := (h.map _).sum_nat
theorem sum_next {l : List Rw} (hl : l ≠ []) (hp : ∀ r ∈ l, 0 < r.xs.length) : sumL (nextL l) + 1 = sumL l := by
 have hpos := List.length_pos_iff.2 hl
 have h1 := sumL_perm (pop_perm ltR hl)
 have h0 : 0 < (nth l 0).xs.length := hp _ (nth_mem hpos)
 have e1 : sumL (nth l 0 :: popL ltR l) = (nth l 0).xs.length + sumL (popL ltR l) := by simp [sumL]
 unfold nextL
 split
 ·rename_i h
  have h2 := sumL_perm (push_perm ltR (popL ltR l) (nth l 0).tl)
  have e2 : sumL ((nth l 0).tl :: popL ltR l) = (nth l 0).tl.xs.length + sumL (popL ltR l) := by simp [sumL]
  have e3 : (nth l 0).tl.xs.length = (nth l 0).xs.length - 1 := by show (nth l 0).xs.tail.length = _; rw [List.length_tail]
  omega
 ·omega
theorem sum_nil {l : List Rw} (hp : ∀ r ∈ l, 0 < r.xs.length) (h : sumL l = 0) : l.length = 0 := by
 cases l with
 | nil => rfl
 | cons r t =>
  have := hp r (by simp)
  unfold sumL at h
  rw [List.map_cons, List.sum_cons] at h
  omega
theorem next_mem {l : List Rw} (hl : l ≠ []) {x : Rw} (hx : x ∈ nextL l) : x = (nth l 0).tl ∨ x ∈ l := by
 unfold nextL at hx
 split at hx
 ·rcases List.mem_cons.1 ((push_perm ltR _ _).mem_iff.1 hx) with e | e
  ·exact .inl e
  ·exact .inr ((pop_perm ltR hl).mem_iff.1 (List.mem_cons_of_mem _ e))
 ·exact .inr ((pop_perm ltR hl).mem_iff.1 (List.mem_cons_of_mem _ hx))

/-- The blocks of an iterator. -/
def OwnI (p : Nat) (v : Value) (l : List Rw) (b : Nat) : Prop := mine p v b ∨ ∃ r ∈ l, r.blk = b
theorem ItAt.keptS {S : Nat → Prop} {w w' : World} {base p : Nat} {v : Value} {l : List Rw} (h : ItAt w base p v l) (hK : Kept S w w') (hS : ∀ b, OwnI p v l b → ¬ S b) : ItAt w' base p v l :=
 ⟨h.heap.keptS hK (hS p (.inl (.inl rfl))) (fun b hb => hS b (.inl (.inr hb))) (fun r hr => hS _ (.inr ⟨r, hr, rfl⟩)), h.hp, h.above⟩
theorem ItAt.own_lt {w : World} {base p : Nat} {v : Value} {l : List Rw} (h : ItAt w base p v l) : ∀ b, OwnI p v l b → b < w.heap.size := by
 rintro b ((rfl | e) | ⟨r, hr, rfl⟩)
 ·exact World.block_lt_of_cell? _ _ h.heap.cell
 ·exact (h.heap.own.lt b e).2
 ·exact World.block_lt_of_cell? _ _ (h.heap.good r hr).hd.1
theorem own_next {p : Nat} {v v' : Value} {l : List Rw} {n : Nat} (hl : l ≠ []) (ha : v'.ownBlock = v.ownBlock ∨ ∀ b, v'.ownBlock = some b → n ≤ b) : ∀ b, OwnI p v' (nextL l) b → OwnI p v l b ∨ n ≤ b := by
 rintro b ((rfl | e) | ⟨r, hr, rfl⟩)
 ·exact .inl (.inl (.inl rfl))
 ·rcases ha with h | h
  ·exact .inl (.inl (.inr (h ▸ e)))
  ·exact .inr (h b e)
 ·rcases next_mem hl hr with rfl | h
  ·exact .inl (.inr ⟨nth l 0, nth_mem (List.length_pos_iff.2 hl), rfl⟩)
  ·exact .inl (.inr ⟨r, h, rfl⟩)

/-- What the caller of an iterator keeps between two rounds: J of the blocks T, of what has come, of the world. -/
structure Caller (l N : Nat) (m : Nat) (J : (Nat → Prop) → List Cel → World → Prop) : Prop where
 kept : ∀ T pre S W W', J T pre W → Kept S W W' → (∀ b, T b → ¬ S b) → J T pre W'
 lt : ∀ T pre W, J T pre W → ∀ b, T b → b < W.heap.size
 round : ∀ T pre x W, J T pre W → pre.length < N → YieldAt Fence.wide m Tryz.prog l #[x.val] W fun e W' => e = .returned (.bool true) ∧ ∃ T', J T' (pre ++ [x]) W' ∧ Kept T W W' ∧ ∀ b, b < W.heap.size → T' b → T b

theorem next_any {w : World} {base p : Nat} {v : Value} {l : List Rw} (h : ItAt w base p v l) (hb : base ≤ w.heap.size) :
  Calls Tryz.prog 301 #[.pointer (some ⟨p, 0, none⟩)] w fun e w' =>
   (l.length = 0 ∧ e = .returned (.tuple #[.agg #[.string ⟨#[]⟩, .int .i64 0, .string ⟨#[]⟩], .bool false]) ∧ Kept (fun _ => False) w w') ∨
   (0 < l.length ∧ e = .returned (.tuple #[.agg #[.string (nth (nth l 0).xs 0).k, .int .i64 (nth (nth l 0).xs 0).s, .string (nth (nth l 0).xs 0).v], .bool true]) ∧
    ∃ v', ItAt w' base p v' (nextL l) ∧ Kept (mine p v) w w' ∧ (v'.ownBlock = v.ownBlock ∨ ∀ b, v'.ownBlock = some b → w.heap.size ≤ b)) := by
 by_cases hl : l.length = 0
 ·exact (next_none h.heap hl).mono fun e w' h => .inl ⟨hl, h⟩
 ·exact (next_some h (by omega) hb).mono fun e w' h => .inr ⟨by omega, h⟩

/-- Where the iterator stands between two rounds: l is left, pre has come, b is the block of the loop's own variable. -/
structure EachAt (W : World) (T0 : Nat → Prop) (v0 : Value) (l0 : List Rw) (base bx p : Nat) (J : (Nat → Prop) → List Cel → World → Prop) (wr : World) (b : Nat) (l : List Rw) (v : Value) (T : Nat → Prop) (pre : List Cel) : Prop where
 j : J T pre wr
 it : ItAt wr base p v l
 dis : ∀ b, OwnI p v l b → ¬ T b
 bxc : wr.cell? ⟨bx, 0, none⟩ = some (.pointer (some ⟨p, 0, none⟩))
 bxT : ¬ T bx
 bxI : ¬ OwnI p v l bx
 bT : ¬ T b
 bI : ¬ OwnI p v l b
 bxl : bx < W.heap.size
 lt : b < wr.heap.size
 bs : base ≤ wr.heap.size
 kp : Kept (fun b => T0 b ∨ OwnI p v0 l0 b) W wr
 tb : ∀ b, b < W.heap.size → T b → T0 b
 ib : ∀ b, b < W.heap.size → OwnI p v l b → OwnI p v0 l0 b

section
variable {W wr w' : World} {T0 T T' : Nat → Prop} {v0 v v' : Value} {l0 l : List Rw} {base bx p b N k m : Nat} {J : (Nat → Prop) → List Cel → World → Prop} {pre pre' : List Cel}

theorem EachAt.round (h : EachAt W T0 v0 l0 base bx p J wr b l v T pre) (h1 : J T' pre' w') (h2 : Kept T wr w') (h3 : ∀ b, b < wr.heap.size → T' b → T b) : EachAt W T0 v0 l0 base bx p J w' b l v T' pre' where
 j := h1
 it := h.it.keptS h2 h.dis
 dis := fun c hc hT => h.dis c hc (h3 c (h.it.own_lt c hc) hT)
 bxc := h2.cell h.bxc h.bxT
 bxT := fun hT => h.bxT (h3 _ (World.block_lt_of_cell? _ _ h.bxc) hT)
 bxI := h.bxI
 bT := fun hT => h.bT (h3 _ h.lt hT)
 bI := h.bI
 bxl := h.bxl
 lt := Nat.lt_of_lt_of_le h.lt h2.size
 bs := Nat.le_trans h.bs h2.size
 kp := h.kp.trans h2 (fun _ _ e => e) (fun c hc e => .inl (h.tb c hc e))
 tb := fun c hc e => h.tb c hc (h3 c (Nat.lt_of_lt_of_le hc h.kp.size) e)
 ib := h.ib

theorem EachAt.fresh (hJ : Caller k N m J) (h : EachAt W T0 v0 l0 base bx p J wr b l v T pre) (o : Obj) : EachAt W T0 v0 l0 base bx p J (wr.alloc o) wr.heap.size l v T pre where
 j := hJ.kept T pre (fun _ => False) wr _ h.j ((Kept.refl _ _).alloc _) (fun _ _ f => f)
 it := h.it.kept ((Kept.refl _ _).alloc _)
 dis := h.dis
 bxc := (Kept.alloc (Kept.refl (fun _ => False) wr) o).cell h.bxc (fun f => f)
 bxT := h.bxT
 bxI := h.bxI
 bT := fun e => Nat.lt_irrefl _ (hJ.lt T pre wr h.j _ e)
 bI := fun e => Nat.lt_irrefl _ (h.it.own_lt _ e)
 bxl := h.bxl
 lt := by simp
 bs := Nat.le_trans h.bs (by simp)
 kp := h.kp.alloc _
 tb := h.tb
 ib := h.ib

theorem EachAt.turned {S : Nat → Prop} (hJ : Caller k N m J) (h : EachAt W T0 v0 l0 base bx p J wr b l v T pre) (hK : Kept S wr w') (hS : ∀ c, S c → c = b) (hge : W.heap.size ≤ b) : EachAt W T0 v0 l0 base bx p J w' b l v T pre where
 j := hJ.kept T pre S wr _ h.j hK (fun c hc hs => h.bT (hS c hs ▸ hc))
 it := h.it.keptS hK (fun c hc hs => h.bI (hS c hs ▸ hc))
 dis := h.dis
 bxc := hK.cell h.bxc (fun hs => by have e : bx = b := hS _ hs; have := h.bxl; omega)
 bxT := h.bxT
 bxI := h.bxI
 bT := h.bT
 bI := h.bI
 bxl := h.bxl
 lt := Nat.lt_of_lt_of_le h.lt hK.size
 bs := Nat.le_trans h.bs hK.size
 kp := h.kp.trans hK (fun _ _ e => e) (fun c hc e => by have := hS c e; omega)
 tb := h.tb
 ib := h.ib

theorem EachAt.next (hJ : Caller k N m J) (h : EachAt W T0 v0 l0 base bx p J wr b l v T pre) (hl : l ≠ []) (h1 : ItAt w' base p v' (nextL l)) (h2 : Kept (mine p v) wr w') (h3 : v'.ownBlock = v.ownBlock ∨ ∀ b, v'.ownBlock = some b → wr.heap.size ≤ b) :
  EachAt W T0 v0 l0 base bx p J w' b (nextL l) v' T pre where
 j := hJ.kept T pre _ wr _ h.j h2 (fun c hc hm => h.dis c (.inl hm) hc)
 it := h1
 dis := fun c hc hT => by
  rcases own_next hl h3 c hc with e | e
  ·exact h.dis c e hT
  ·have := hJ.lt T pre wr h.j c hT; omega
 bxc := h2.cell h.bxc (fun e => h.bxI (.inl e))
 bxT := h.bxT
 bxI := fun hc => by
  rcases own_next hl h3 _ hc with e | e
  ·exact h.bxI e
  ·have := World.block_lt_of_cell? _ _ h.bxc; simp only at this; omega
 bT := h.bT
 bI := fun hc => by
  rcases own_next hl h3 _ hc with e | e
  ·exact h.bI e
  ·have := h.lt; omega
 bxl := h.bxl
 lt := Nat.lt_of_lt_of_le h.lt h2.size
 bs := Nat.le_trans h.bs h2.size
 kp := h.kp.trans h2 (fun _ _ e => e) (fun c hc e => .inr (h.ib c hc (.inl e)))
 tb := h.tb
 ib := fun c hc hI => by
  rcases own_next hl h3 c hI with e | e
  ·exact h.ib c hc e
  ·have := h.kp.size; omega
end

theorem drain_step {l : List Rw} (hl : l ≠ []) (hp : ∀ r ∈ l, 0 < r.xs.length) : drainL (sumL l) l = nth (nth l 0).xs 0 :: drainL (sumL (nextL l)) (nextL l) := by
 rw [← sum_next hl hp, drainL, if_neg (fun e => hl (List.eq_nil_of_length_eq_zero e))]
theorem drain_nil {l : List Rw} (n : Nat) (hl : l.length = 0) : drainL n l = [] := by
 cases n with
 | zero => rfl
 | succ n => rw [drainL, if_pos hl]

/-- Three cells of a block of the loop's own. -/
def Three (w : World) (b : Nat) (x : Cel) : Prop := w.cell? ⟨b, 0, none⟩ = some (.string x.k) ∧ w.cell? ⟨b, 1, none⟩ = some (.int .i64 x.s) ∧ w.cell? ⟨b, 2, none⟩ = some (.string x.v) ∧ ∀ j, w.frozen? ⟨b, j, none⟩ = false
theorem Three.kept {S : Nat → Prop} {w w' : World} {b : Nat} {x : Cel} (h : Three w b x) (hK : Kept S w w') (hS : ¬ S b) : Three w' b x := hK.cells3 hS h.1 h.2.1 h.2.2.1 h.2.2.2
theorem Three.new (w : World) (x : Cel) : Three (w.alloc (.cells #[.string x.k, .int .i64 x.s, .string x.v] 132)) w.heap.size x := by
 obtain ⟨h0, h1, h2, h3, _⟩ := (Kept.refl (fun _ => False) (w.alloc (.cells #[.string x.k, .int .i64 x.s, .string x.v] 132))).fresh3 (fun f => f)
 exact ⟨h0, h1, h2, h3⟩
theorem Three.set {w : World} {b : Nat} {x : Cel} (h : Three w b x) (y : Cel) : Three (((w.setCell ⟨b, 0, none⟩ (.string y.k)).setCell ⟨b, 1, none⟩ (.int .i64 y.s)).setCell ⟨b, 2, none⟩ (.string y.v)) b y := by
 obtain ⟨h0, h1, h2, h3⟩ := h
 refine ⟨by simp [go_sem, h0], by simp [go_sem, h1], by simp [go_sem, h2], fun j => by simp [h3 j]⟩
def zeroC : Cel := ⟨⟨#[]⟩, 0, ⟨#[]⟩⟩
theorem kept_three (w : World) (b : Nat) (y : Cel) : Kept (fun c => b = c) w (((w.setCell ⟨b, 0, none⟩ (.string y.k)).setCell ⟨b, 1, none⟩ (.int .i64 y.s)).setCell ⟨b, 2, none⟩ (.string y.v)) :=
 Kept.setAt (fun _ => rfl) (Kept.setAt (fun _ => rfl) (Kept.setAt (fun _ => rfl) (Kept.refl _ w)))

set_option maxRecDepth 100000 in
set_option maxHeartbeats 4000000 in
theorem each_in (n : Nat) (hn : 1 ≤ n) (k bx base p : Nat) (l : List Rw) (v : Value) (J : (Nat → Prop) → List Cel → World → Prop) (hJ : Caller k (sumL l) (n - 1) J) (T : Nat → Prop) (W : World)
  (h0 : J T [] W) (hI : ItAt W base p v l) (hb : base ≤ W.heap.size) (hbx : W.cell? ⟨bx, 0, none⟩ = some (.pointer (some ⟨p, 0, none⟩))) (hbT : ¬ T bx) (hbI : ¬ OwnI p v l bx) (hd : ∀ b, OwnI p v l b → ¬ T b) :
  CallsIn Fence.wide n Tryz.prog 300 #[.func (.yield k) #[] #[], .pointer (some ⟨bx, 0, none⟩)] W fun e W' => (∃ u, e = .returned u) ∧
   ∃ T', J T' (drainL (sumL l) l) W' ∧ Kept (fun b => T b ∨ OwnI p v l b) W W' ∧ ∀ b, b < W.heap.size → T' b → T b := by
 have hbxl := World.block_lt_of_cell? _ _ hbx
 simp only at hbxl
 have E0 := Lib.hid (EachAt.mk (W := W) (T0 := T) (v0 := v) (l0 := l) (wr := W) (b := bx) h0 hI hd hbx hbT hbI hbT hbI hbxl hbxl hb (Kept.refl _ W) (fun _ _ h => h) (fun _ _ h => h))
 have hpos : ∀ r ∈ l, 0 < r.xs.length := fun r hr => (hI.heap.good r hr).ne
 obtain ⟨N, hN⟩ : ∃ N, sumL l = N := ⟨_, rfl⟩
 obtain ⟨tot, htot⟩ : ∃ t, drainL (sumL l) l = t := ⟨_, rfl⟩
 rw [htot]
 have hJ' := hJ
 rw [hN] at hJ'
 have NN := Lib.hid hN; have TOT := Lib.hid htot; have CJ := Lib.hid hJ'; have PO := Lib.hid hpos; have IT := Lib.hid hI
 clear h0 hI hbT hbI hd hN htot hJ hJ' hpos
 refine callsIn_of_wp Tryz.func300 rfl trivial ?_ rfl
 simp only [Tryz.ntmps300, List.size_toArray, List.length_cons, List.length_nil, Nat.reduceAdd, Nat.reduceSub, Array.replicate_succ, Array.replicate_zero, List.push_toArray, List.append_toArray, List.nil_append, List.cons_append]
 gi_wp2_with fail
 refine ⟨trivial, (callsIn_wide.2 (next_any IT.out hb)).mono ?_⟩
 -- what both ways come to, as the loop begins
 have hstart : ∀ w1 : World, ∀ x : Cel, ∀ l1 v1, EachAt W T v l base bx p J w1 bx l1 v1 T [] → EachAt W T v l base bx p J (w1.alloc (.cells #[.string x.k, .int .i64 x.s, .string x.v] 132)) w1.heap.size l1 v1 T [] ∧ Three (w1.alloc (.cells #[.string x.k, .int .i64 x.s, .string x.v] 132)) w1.heap.size x ∧ W.heap.size ≤ w1.heap.size :=
  fun w1 x l1 v1 h => ⟨h.fresh CJ.out _, Three.new _ _, h.kp.size⟩
 have HS := Lib.hid hstart; clear hstart
 rintro e w1 (⟨hl, rfl, K1⟩ | ⟨hl, rfl, v1, h1, k1, a1⟩)
 ·have E1 := Lib.hid (EachAt.mk (W := W) (T0 := T) (v0 := v) (l0 := l) (J := J) (wr := w1) (b := bx) (CJ.out.kept T [] _ W w1 E0.out.j K1 (fun _ _ f => f)) (IT.out.kept K1) E0.out.dis (K1.cell hbx (fun f => f)) E0.out.bxT E0.out.bxI E0.out.bxT E0.out.bxI hbxl (Nat.lt_of_lt_of_le hbxl K1.size) (Nat.le_trans hb K1.size) (K1.mono (fun _ _ f => f.elim)) (fun _ _ h => h) (fun _ _ h => h))
  have E2 := Lib.hid (HS.out w1 zeroC l v E1.out)
  have ht : ([] : List Cel) = tot := by rw [← TOT.out, drain_nil _ hl]
  have HT := Lib.hid ht
  clear K1 hl ht hbx
  gi_wp2
  gi_loopg [3, 4] 0 (fun _ _ t4 wr => t4 = .bool false ∧ wr = w1.alloc (.cells #[.string ⟨#[]⟩, .int .i64 0, .string ⟨#[]⟩] 132))
  case atStart => exact ⟨rfl, rfl⟩
  case round =>
   obtain ⟨rfl, rfl⟩ := hrel
   gi_wp2
   refine ⟨fun _ h => (by cases h), ?_⟩
   gi_wp2
   go_end0
   exact ⟨⟨_, rfl⟩, T, by rw [← HT.out]; exact E2.out.1.j, E2.out.1.kp, E2.out.1.tb⟩
 ·have hne : l ≠ [] := fun e => by rw [e] at hl; simp at hl
  have E1 := Lib.hid (E0.out.next CJ.out hne h1 k1 a1)
  obtain ⟨x, hx⟩ : ∃ x, nth (nth l 0).xs 0 = x := ⟨_, rfl⟩
  have hdr := drain_step hne PO.out
  rw [TOT.out, hx] at hdr
  have hsum := sum_next hne PO.out
  rw [NN.out] at hsum
  have E2 := Lib.hid (HS.out w1 x (nextL l) v1 E1.out)
  have DR := Lib.hid hdr; have SU := Lib.hid hsum
  rw [hx]
  clear h1 k1 a1 hne hx hdr hsum hbx
  gi_wp2
  gi_loopg [3, 4] N (fun g t3 t4 wr => ∃ b3 l1 v1 T1 pre, t3 = .pointer (some ⟨b3, 0, none⟩) ∧ W.heap.size ≤ b3 ∧ EachAt W T v l base bx p J wr b3 l1 v1 T1 pre ∧
   ((t4 = .bool true ∧ ∃ x, Three wr b3 x ∧ g = sumL l1 + 1 ∧ pre ++ x :: drainL (sumL l1) l1 = tot ∧ pre.length + g = N) ∨ (t4 = .bool false ∧ pre = tot)))
  case atStart => exact ⟨_, _, _, _, _, rfl, E2.out.2.2, E2.out.1, .inl ⟨rfl, x, E2.out.2.1, SU.out.symm, DR.out.symm, by simp⟩⟩
  case round =>
   obtain ⟨b3, l1, v2, T1, pre, rfl, hge, he, hor⟩ := hrel
   have EE := Lib.hid he; clear he
   rcases hor with ⟨rfl, y, h3, hg, hdr, hpl⟩ | ⟨rfl, hpre⟩
   ·obtain ⟨c0, c1, c2, cf⟩ := h3
    have hbl := EE.out.lt
    obtain ⟨fn, tmps, assign, body, hy, hR⟩ := CJ.out.round T1 pre y wr EE.out.j (by omega)
    unfold Cel.val at hy
    have G := Lib.hid hg; have D := Lib.hid hdr; have PL := Lib.hid hpl
    clear hg hdr hpl cf E1 E2 DR SU
    gi_wp2
    refine hR.mono ?_
    rintro e W3 ⟨rfl, T2, j2, k2, t2⟩
    have E3 := Lib.hid (EE.out.round j2 k2 t2)
    have d0 := k2.cell c0 EE.out.bT
    have d1 := k2.cell c1 EE.out.bT
    have d2 := k2.cell c2 EE.out.bT
    have db := E3.out.lt
    clear hR hy c0 c1 c2 j2 k2 t2
    have E4 := Lib.hid (E3.out.fresh CJ.out (.cells #[.string y.k, .int .i64 y.s, .string y.v] 132))
    have T4 := Lib.hid (Three.new W3 y)
    have hbx3 := E3.out.bxc
    have hbxl3 := World.block_lt_of_cell? _ _ hbx3
    simp only at hbxl3
    have ge3 := E3.out.kp.size
    gi_wp2_with fail
    refine ⟨trivial, (callsIn_wide.2 (next_any E4.out.it E4.out.bs)).mono ?_⟩
    have hpos : ∀ r ∈ l1, 0 < r.xs.length := fun r hr => (EE.out.it.heap.good r hr).ne
    rintro e w5 (⟨hl1, rfl, K5⟩ | ⟨hl1, rfl, v5, h5, k5, a5⟩)
    ·have E5 := Lib.hid (E4.out.turned CJ.out K5 (fun _ f => f.elim) ge3)
     have T5 := Lib.hid (T4.out.kept K5 (fun f => f))
     obtain ⟨q0, q1, q2, qf⟩ := T5.out
     obtain ⟨f0, f1, f2⟩ : w5.frozen? ⟨W3.heap.size, 0, none⟩ = false ∧ w5.frozen? ⟨W3.heap.size, 1, none⟩ = false ∧ w5.frozen? ⟨W3.heap.size, 2, none⟩ = false := ⟨qf 0, qf 1, qf 2⟩
     have hd0 : pre ++ [y] = tot := by rw [← D.out, drain_nil _ hl1]
     have HD := Lib.hid hd0
     clear K5 qf hl1 hd0 d0 d1 d2 hpos
     gi_wp2
     gi_roundg 0
     case measure => have := G.out; omega
     case rel => exact ⟨_, _, _, _, _, rfl, ge3, E5.out.turned CJ.out (kept_three w5 W3.heap.size zeroC) (fun _ e => e.symm) ge3, .inr ⟨rfl, HD.out⟩⟩
    ·have hne1 : l1 ≠ [] := fun e => by rw [e] at hl1; simp at hl1
     have E5 := Lib.hid (E4.out.next CJ.out hne1 h5 k5 a5)
     have T5 := Lib.hid (T4.out.kept k5 (fun f => E4.out.bI (.inl f)))
     obtain ⟨q0, q1, q2, qf⟩ := T5.out
     obtain ⟨f0, f1, f2⟩ : w5.frozen? ⟨W3.heap.size, 0, none⟩ = false ∧ w5.frozen? ⟨W3.heap.size, 1, none⟩ = false ∧ w5.frozen? ⟨W3.heap.size, 2, none⟩ = false := ⟨qf 0, qf 1, qf 2⟩
     obtain ⟨z, hz⟩ : ∃ z, nth (nth l1 0).xs 0 = z := ⟨_, rfl⟩
     have hdr := drain_step hne1 hpos
     have hsum := sum_next hne1 hpos
     rw [hz] at hdr
     rw [hz]
     have D5 := Lib.hid hdr; have S5 := Lib.hid hsum
     clear k5 h5 a5 qf hl1 d0 d1 d2 hpos hdr hsum hne1 hz
     gi_wp2
     gi_roundg (gk - 1)
     case measure => have := G.out; omega
     case rel => exact ⟨_, _, _, _, _, rfl, ge3, E5.out.turned CJ.out (kept_three w5 W3.heap.size z) (fun _ e => e.symm) ge3, .inl ⟨rfl, z, T5.out.set z, by have := G.out; have := S5.out; omega, by rw [List.append_assoc]; show pre ++ y :: z :: _ = tot; rw [← D5.out]; exact D.out, by have := PL.out; have := G.out; rw [List.length_append]; simp; omega⟩⟩
   ·have HP := Lib.hid hpre; clear hpre
    gi_wp2
    refine ⟨fun _ h => (by cases h), ?_⟩
    gi_wp2
    go_end0
    exact ⟨⟨_, rfl⟩, T1, by rw [← HP.out]; exact EE.out.j, EE.out.kp, EE.out.tb⟩
end Go.Proofs.YthknocapablpaaaGreatDoor.Mg

/- 'for c := range i.each() { .. }': the statement, its body walked once. -/
namespace Go.Proofs.YthknocapablpaaaGreatDoor.Mg
set_option maxRecDepth 100000
open Go.RowKit

theorem kept_put (W : World) (l : Nat) (o : Obj) : Kept (fun b => l = b) W (W.putObj l o) :=
 ⟨rfl, rfl, rfl, by simp, fun _ _ hk => World.putObj_heap_other (fun e => hk e.symm)⟩

/-- What the caller keeps: I of the blocks T. -/
structure Mine (I : (Nat → Prop) → List Cel → World → Prop) : Prop where
 kept : ∀ T pre S W W', I T pre W → Kept S W W' → (∀ b, T b → ¬ S b) → I T pre W'
 lt : ∀ T pre W, I T pre W → ∀ b, T b → b < W.heap.size

/-- With the loop's record and the block for its deferred calls. -/
def withRec (I : (Nat → Prop) → List Cel → World → Prop) (L D : Nat) (rec : LoopState → Option Code → Loop) (T : Nat → Prop) (pre : List Cel) (W : World) : Prop :=
 ∃ TI, (∀ b, T b ↔ (TI b ∨ b = L ∨ b = D)) ∧ I TI pre W ∧ W.heap[L]? = some (.loop (rec .ready none)) ∧ W.heap[D]? = some (.deferred (some [])) ∧ ¬ TI L ∧ ¬ TI D

def bodyEnd (I : (Nat → Prop) → List Cel → World → Prop) (T : Nat → Prop) (pre : List Cel) (W : World) : Exit → Act → World → Prop
 | .normal, _, W' => ∃ T', I T' pre W' ∧ Kept T W W' ∧ ∀ b, b < W.heap.size → T' b → T b
 | _, _, _ => False

theorem caller_of {I : (Nat → Prop) → List Cel → World → Prop} (hI : Mine I) {fn : FuncId} {tm : Array Value} {ps : Array Tmp} {assign body : Code} {D L N m : Nat} (hLD : L ≠ D) (hps : ps.size = 1) (a₁ : Cel → Nat → Act)
  (hassign : ∀ (l : Nat) (x : Cel) (W : World) (K : Act → World → Prop), K (a₁ x W.heap.size) (W.alloc (.cells #[.string x.k, .int .i64 x.s, .string x.v] 132)) →
   assign.wpIn (Fence.wide.inRound l) m Tryz.prog (Exit.then K (fun _ _ _ => False)) { tmps := (ps.zip #[x.val]).foldl (fun t (p, v) => t.setIfInBounds p v) tm, defers := [] } W)
  (hbody : ∀ (l : Nat) (T : Nat → Prop) (pre : List Cel) (x : Cel) (W : World) (b : Nat), I T pre W → pre.length < N → Three W b x → ¬ T b → body.wpIn (Fence.wide.inRound l) m Tryz.prog (bodyEnd I T (pre ++ [x]) W) (a₁ x b) W) :
  Caller L N m (withRec I L D (fun st pe => { state := st, pending := pe, fn, tmps := tm, params := ps, assign, body, defers := D })) := by
 obtain ⟨rec, hrec⟩ : ∃ rec : LoopState → Option Code → Loop, (fun st pe => { state := st, pending := pe, fn, tmps := tm, params := ps, assign, body, defers := D }) = rec := ⟨_, rfl⟩
 rw [hrec]
 refine ⟨?_, ?_, ?_⟩
 ·rintro T pre S W W' ⟨TI, hT, h1, h2, h3, h4, h5⟩ hK hS
  exact ⟨TI, hT, hI.kept TI pre S W W' h1 hK (fun b hb => hS b ((hT b).2 (.inl hb))), (hK.block L (Array.getElem?_eq_some_iff.1 h2).1 (hS L ((hT L).2 (.inr (.inl rfl))))).trans h2, (hK.block D (Array.getElem?_eq_some_iff.1 h3).1 (hS D ((hT D).2 (.inr (.inr rfl))))).trans h3, h4, h5⟩
 ·rintro T pre W ⟨TI, hT, h1, h2, h3, h4, h5⟩ b hb
  rcases (hT b).1 hb with h | rfl | rfl
  ·exact hI.lt _ _ _ h1 b h
  ·exact (Array.getElem?_eq_some_iff.1 h2).1
  ·exact (Array.getElem?_eq_some_iff.1 h3).1
 ·rintro T pre x W ⟨TI, hT, h1, h2, h3, h4, h5⟩ hlen
  have hLlt : L < W.heap.size := (Array.getElem?_eq_some_iff.1 h2).1
  have hDlt : D < W.heap.size := (Array.getElem?_eq_some_iff.1 h3).1
  have hy := run_yield (P := Tryz.prog) (args := #[x.val]) h2 (by rw [← hrec]; exact hps.symm)
  have e1 : (rec .ready none).fn = fn := by rw [← hrec]
  have e2 : (rec .ready none).params = ps := by rw [← hrec]
  have e3 : (rec .ready none).tmps = tm := by rw [← hrec]
  have e4 : (rec .ready none).assign = assign := by rw [← hrec]
  have e5 : (rec .ready none).body = body := by rw [← hrec]
  rw [e1, e2, e3, e4, e5] at hy
  obtain ⟨W2, hW2⟩ : ∃ W2, W.alloc (.cells #[.string x.k, .int .i64 x.s, .string x.v] 132) = W2 := ⟨_, rfl⟩
  have k2 : Kept (fun _ => False) W W2 := by rw [← hW2]; exact (Kept.refl _ W).alloc _
  have hL2 : W2.heap[L]? = some (.loop (rec .ready none)) := (k2.block L hLlt (fun f => f)).trans h2
  have hD2 : W2.heap[D]? = some (.deferred (some [])) := (k2.block D hDlt (fun f => f)).trans h3
  have hLlt2 : L < W2.heap.size := (Array.getElem?_eq_some_iff.1 hL2).1
  obtain ⟨W3, hW3⟩ : ∃ W3, W2.putObj L (.loop { rec .ready none with state := .busy }) = W3 := ⟨_, rfl⟩
  have k3 : Kept (fun b => L = b) W2 W3 := by rw [← hW3]; exact kept_put _ _ _
  have hL3 : W3.heap[L]? = some (.loop { rec .ready none with state := .busy }) := by rw [← hW3]; exact World.putObj_heap_same hLlt2
  have hD3 : W3.heap[D]? = some (.deferred (some [])) := (k3.block D (Array.getElem?_eq_some_iff.1 hD2).1 hLD).trans hD2
  have i3 : I TI pre W3 := hI.kept TI pre _ W2 W3 (hI.kept TI pre _ W W2 h1 k2 (fun _ _ f => f)) k3 (fun b hb e => h4 (by rw [e]; exact hb))
  have hbr : (Instr.beginRound L).run Tryz.prog W2 = .ok () W3 := by rw [run_beginRound hL2 (by rw [← hrec]), hW3]
  have t3 : Three W3 W.heap.size x := by
   have := Three.new W x
   rw [hW2] at this
   exact this.kept k3 (fun e => by omega)
  refine ⟨fn, _, assign, body, hy, roundIn_of_wpIn trivial (hassign L x W _ ⟨W3, by rw [hW2]; exact hbr, ?_⟩)⟩
  refine wpIn_mono (hbody L TI pre x W3 W.heap.size i3 hlen t3 (fun h => Nat.lt_irrefl _ (hI.lt _ _ _ h1 _ h))) ?_
  rintro e a3 W4 hp
  cases e with
  | normal =>
   obtain ⟨TI', i4, k4, t4⟩ := hp
   have hL4 : W4.heap[L]? = some (.loop { rec .ready none with state := .busy }) := (k4.block L (Array.getElem?_eq_some_iff.1 hL3).1 h4).trans hL3
   have hD4 : W4.heap[D]? = some (.deferred (some [])) := (k4.block D (Array.getElem?_eq_some_iff.1 hD3).1 h5).trans hD3
   have hL3lt := (Array.getElem?_eq_some_iff.1 hL3).1
   have hD3lt := (Array.getElem?_eq_some_iff.1 hD3).1
   have n4 : ¬ TI' L := fun h => h4 (t4 L hL3lt h)
   have n5 : ¬ TI' D := fun h => h5 (t4 D hD3lt h)
   have her := run_endRound (P := Tryz.prog) none hL4
   obtain ⟨W5, hW5⟩ : ∃ W5, W4.putObj L (.loop (rec .ready none)) = W5 := ⟨_, rfl⟩
   have k5 : Kept (fun b => L = b) W4 W5 := by rw [← hW5]; exact kept_put _ _ _
   refine ⟨_, W5, ?_, rfl, fun b => TI' b ∨ b = L ∨ b = D, ⟨TI', fun b => Iff.rfl, hI.kept TI' _ _ W4 W5 i4 k5 (fun b hb e => n4 (by rw [e]; exact hb)), ?_, ?_, n4, n5⟩, ?_, ?_⟩
   ·rw [her, ← hW5, ← hrec]; rfl
   ·rw [← hW5]; exact World.putObj_heap_same (Array.getElem?_eq_some_iff.1 hL4).1
   ·exact (k5.block D (Array.getElem?_eq_some_iff.1 hD4).1 hLD).trans hD4
   ·have q1 : Kept T W W3 := (k2.trans k3 (T := T) (fun _ _ f => f.elim) (fun b _ e => (hT b).2 (.inr (.inl e.symm))))
    have q2 : Kept T W W4 := q1.trans k4 (fun _ _ h => h) (fun b _ h => (hT b).2 (.inl h))
    exact q2.trans k5 (fun _ _ h => h) (fun b _ e => (hT b).2 (.inr (.inl e.symm)))
   ·rintro b hb (h | h | h)
    ·exact (hT b).2 (.inl (t4 b (Nat.lt_of_lt_of_le hb (Nat.le_trans k2.size k3.size)) h))
    ·exact (hT b).2 (.inr (.inl h))
    ·exact (hT b).2 (.inr (.inr h))
  | _ => exact hp.elim

theorem range_each {g : Operand} {ps : Array Tmp} {assign body : Code} {Q : Exit → Act → World → Prop} {a : Act} {w : World} {n : Nat} (hn : 2 ≤ n) {bx base p : Nat} {v : Value} {l : List Rw}
  (hg : a.eval g = .func (.func 300) #[] #[.pointer (some ⟨bx, 0, none⟩)]) (hps : ps.size = 1)
  {I : (Nat → Prop) → List Cel → World → Prop} (hI : Mine I) {T : Nat → Prop} (h0 : I T [] w) (hIt : ItAt w base p v l) (hb : base ≤ w.heap.size)
  (hbx : w.cell? ⟨bx, 0, none⟩ = some (.pointer (some ⟨p, 0, none⟩))) (hbT : ¬ T bx) (hbI : ¬ OwnI p v l bx) (hd : ∀ b, OwnI p v l b → ¬ T b) (a₁ : Cel → Nat → Act)
  (hassign : ∀ (k : Nat) (x : Cel) (W : World) (K : Act → World → Prop), K (a₁ x W.heap.size) (W.alloc (.cells #[.string x.k, .int .i64 x.s, .string x.v] 132)) →
   assign.wpIn (Fence.wide.inRound k) (n - 1 - 1) Tryz.prog (Exit.then K (fun _ _ _ => False)) { tmps := (ps.zip #[x.val]).foldl (fun t (p, v) => t.setIfInBounds p v) a.tmps, defers := [] } W)
  (hbody : ∀ (k : Nat) (T : Nat → Prop) (pre : List Cel) (x : Cel) (W : World) (b : Nat), I T pre W → pre.length < sumL l → Three W b x → ¬ T b → body.wpIn (Fence.wide.inRound k) (n - 1 - 1) Tryz.prog (bodyEnd I T (pre ++ [x]) W) (a₁ x b) W)
  (hdone : ∀ (D : Nat) (T' : Nat → Prop) (W : World), I T' (drainL (sumL l) l) W → ¬ T' D → Kept (fun b => T b ∨ OwnI p v l b) w W → (∀ b, b < w.heap.size → T' b → T b) → w.heap.size ≤ D → W.heap[D]? = some (.deferred (some [])) →
   Q .normal { a with defers := { target := .collected D, args := #[] } :: a.defers } W) :
  (Code.rangeFunc g ps assign body).wpIn Fence.wide n Tryz.prog Q a w := by
 refine wpIn_rangeFunc ?_
 intro fn hfn
 have hro : Fence.wide.round = none := rfl
 rw [hro]
 have hJ := caller_of hI (fn := fn) (tm := a.tmps) (ps := ps) (D := w.heap.size) (L := w.heap.size + 1) (N := sumL l) (m := n - 1 - 1) (by omega) hps a₁ hassign hbody
 obtain ⟨rec, hrec⟩ : ∃ rec : LoopState → Option Code → Loop, rec = fun st pe => { state := st, pending := pe, fn, tmps := a.tmps, params := ps, assign, body, defers := w.heap.size } := ⟨_, rfl⟩
 rw [← hrec] at hJ
 obtain ⟨W1, hW1⟩ : ∃ W1, (w.alloc (.deferred (some []))).alloc (.loop (rec .ready none)) = W1 := ⟨_, rfl⟩
 have hL1 : W1.heap[w.heap.size + 1]? = some (.loop (rec .ready none)) := by rw [← hW1]; exact heap_second w _ _
 have hK1 : W1.heap[w.heap.size]? = some (.deferred (some [])) := by rw [← hW1]; exact heap_first w _ _
 have k1 : Kept (fun _ => False) w W1 := by rw [← hW1]; exact ((Kept.refl _ w).alloc _).alloc _
 have ht1 : ¬ T w.heap.size := fun h => Nat.lt_irrefl _ (hI.lt _ _ _ h0 _ h)
 have ht2 : ¬ T (w.heap.size + 1) := fun h => by have := hI.lt _ _ _ h0 _ h; omega
 have hbxl := World.block_lt_of_cell? _ _ hbx
 simp only at hbxl
 refine ⟨w.heap.size + 1, [{ target := .collected w.heap.size, args := #[] }], W1, { target := .fn (.func 300) #[.pointer (some ⟨bx, 0, none⟩)], args := #[.func (.yield (w.heap.size + 1)) #[] #[]] }, W1, 300,
  #[.func (.yield (w.heap.size + 1)) #[] #[], .pointer (some ⟨bx, 0, none⟩)], W1, ?_, ?_, ?_, ?_, (fun h => by cases h), ?_⟩
 ·rw [← hW1, hrec]; exact run_enterLoop_outer _ _ _ _ _
 ·simp only [resolve, hg]
  simp [go_sem]
 ·intro f' _; trivial
 ·have e := enters_of Tryz.func300 (by kernel_rfl) rfl #[.func (.yield (w.heap.size + 1)) #[] #[], .pointer (some ⟨bx, 0, none⟩)] W1
  simp [invoke, go_sem, e]
 ·refine (each_in (n - 1) (by omega) (w.heap.size + 1) bx base p l v (withRec I (w.heap.size + 1) w.heap.size rec) hJ (fun b => T b ∨ b = w.heap.size + 1 ∨ b = w.heap.size) W1
   ⟨T, fun b => Iff.rfl, hI.kept T [] _ w W1 h0 k1 (fun _ _ f => f), hL1, hK1, ht2, ht1⟩ (hIt.kept k1) (Nat.le_trans hb k1.size) (k1.cell hbx (fun f => f)) ?_ hbI ?_).mono ?_
  ·rintro (h | h | h)
   ·exact hbT h
   ·omega
   ·omega
  ·intro b hbo
   have := hIt.own_lt b hbo
   rintro (h | h | h)
   ·exact hd b hbo h
   ·omega
   ·omega
  ·rintro e W' ⟨⟨u, rfl⟩, T', ⟨TI, hT, i1, i2, i3, i4, i5⟩, kk, tt⟩
   have hpend : (rec .ready none).pending = none := by rw [hrec]
   obtain ⟨o, hel⟩ : ∃ o, (Instr.endLoop (w.heap.size + 1)).run Tryz.prog W' = .ok none (W'.putObj (w.heap.size + 1) o) := by
    have := run_endLoop (P := Tryz.prog) i2 (by rw [hrec]; simp)
    rw [hpend] at this
    exact ⟨_, this⟩
   refine ⟨none, _, hel, ?_⟩
   have k5 := kept_put W' (w.heap.size + 1) o
   refine hdone w.heap.size TI _ (hI.kept TI _ _ _ _ i1 k5 (fun b hb e => i4 (by rw [e]; exact hb))) i5 ?_ ?_ (Nat.le_refl _) ((k5.block _ (Array.getElem?_eq_some_iff.1 i3).1 (by omega)).trans i3)
   ·refine (k1.trans kk (T := fun b => T b ∨ OwnI p v l b) (fun _ _ f => f.elim) (fun b hb h => ?_)).trans k5 (fun _ _ h => h) (fun b hb e => by omega)
    rcases h with (h | h | h) | h
    ·exact .inl h
    ·omega
    ·omega
    ·exact .inr h
   ·intro b hb h
    rcases tt b (Nat.lt_of_lt_of_le hb k1.size) ((hT b).2 (.inl h)) with q | q | q
    ·exact q
    ·omega
    ·omega
end Go.Proofs.YthknocapablpaaaGreatDoor.Mg

/- slices.AppendSeq and slices.Collect over the cells that come. -/
namespace Go.Proofs.YthknocapablpaaaGreatDoor.Mg
set_option maxRecDepth 100000
open Go.RowKit
attribute [local go_sem] Oper.semAt_some

theorem own_keptS {S : Nat → Prop} {w w' : World} {base e size : Nat} {v : Value} {n : Nat} {xs : List Value} (h : w.ownsRow base e size v n xs) (hK : Kept S w w') (hv : ∀ b, v.ownBlock = some b → ¬ S b) : w'.ownsRow base e size v n xs := by
 obtain ⟨h1, h2⟩ := h
 refine ⟨h1, ?_⟩
 rcases h2 with h2 | ⟨g, cap, cur, rfl, hb, hg, rest⟩
 ·exact .inl h2
 ·exact .inr ⟨g, cap, cur, rfl, hb, (hK.block g (Array.getElem?_eq_some_iff.1 hg).1 (hv g rfl)).trans hg, rest⟩

/-- A variable in a block of its own holds a row of its own: what f makes of what has come. -/
def BoxI (B Bs : Nat) (f : List Cel → List Cel) (T : Nat → Prop) (pre : List Cel) (W : World) : Prop :=
 ∃ u, (∀ b, T b ↔ (b = Bs ∨ u.ownBlock = some b)) ∧ W.cell? ⟨Bs, 0, none⟩ = some u ∧ W.frozen? ⟨Bs, 0, none⟩ = false ∧ W.ownsRow B 132 3 u (f pre).length (cellsC (f pre)) ∧ u.ownBlock ≠ some Bs ∧ B ≤ W.heap.size
theorem boxI_mine (B Bs : Nat) (f : List Cel → List Cel) : Mine (BoxI B Bs f) := by
 refine ⟨?_, ?_⟩
 ·rintro T pre S W W' ⟨u, hT, h1, h2, h3, h4, h5⟩ hK hS
  have s1 : ¬ S Bs := hS Bs ((hT Bs).2 (.inl rfl))
  exact ⟨u, hT, hK.cell h1 s1, hK.frozen h2 (World.block_lt_of_cell? _ _ h1) s1, own_keptS h3 hK (fun b hb => hS b ((hT b).2 (.inr hb))), h4, Nat.le_trans h5 hK.size⟩
 ·rintro T pre W ⟨u, hT, h1, h2, h3, h4, h5⟩ b hb
  rcases (hT b).1 hb with rfl | h
  ·exact World.block_lt_of_cell? _ _ h1
  ·exact (h3.lt b h).2

/-- append to an owned row inside a round: where the row lies behind it. -/
theorem in_append {F : Fence} {n : Nat} {P : Program} (w : World) {ops : Array Oper} {rest : List Oper} {o : Oper} {a : Act} {Q : Exit → Act → World → Prop}
  (hg : o.guard = none) (s x : Operand) (t : TypeId) (hop : o.op = Op.call { callee := Callee.builtin Builtin.append, args := #[s, x], argTypes := #[t, t] })
  (base : Nat) (e : TypeId) (i : TypeInfo) (z : Value) (size bytes : Nat) (h1 : P.underlying t = some (.slice e)) (h2 : P.info? e = some i) (h3 : i.zero = some z) (h4 : i.size = size) (h5 : i.bytes = bytes) (h6 : z.cells.size = size) (h7 : 0 < size)
  (v : Value) (k : Nat) (xs : List Value) (hs : a.eval s = v) (hown : w.ownsRow base e size v k xs) (ad : Addr) (m c : Nat) (news : List Value) (hx : a.eval x = .slice (some ad) m c) (hn : news.length = m * size)
  (hc : ∀ j u, news[j]? = some u → w.cell? (ad.add j) = some u) (h1c : ∀ u ∈ news, u.oneCell' = true) (b1 : k + m ≤ maxLen) (b2 : (k + m) * bytes ≤ 140737488355328) (b3 : base ≤ w.heap.size)
  (hK : ∀ v' w', w'.ownsRow base e size v' (k + m) (xs ++ news) → w.grownBy w' v.ownBlock → (v'.ownBlock = v.ownBlock ∨ v'.ownBlock = some w.heap.size) → wpListIn F n P ops Q rest (a.put o.dst v') w') :
  wpListIn F n P ops Q (o :: rest) a w := by
 refine wpListIn_plain hg fun K hK' => ?_
 obtain ⟨v', w', hrun, r1, r2, _, r4⟩ := run_append_own_at (P := P) w base t o.type e i z size bytes h1 h2 h3 h4 h5 h6 h7 v k xs hown ad m c news hn hc h1c b1 b2 b3
 unfold Oper.wpIn
 refine ⟨?_, ?_⟩
 ·simp [Oper.about, hop, resolve, Target.leads, Sem.run_pure]
 ·rw [Oper.semAt_plain F _ _ (by rw [hop]; intro c hc'; cases hc')]
  simp [execOp, hop, resolve, invoke, builtin, hs, hx, hrun, Result.andThen]
  exact hK' _ _ (hK v' w' r1 r2 r4)

theorem each_new (p : Nat) (w : World) : Calls Tryz.prog 215 #[.pointer (some ⟨p, 0, none⟩)] w fun e w' => e = .returned (.func (.func 300) #[] #[.pointer (some ⟨w.heap.size, 0, none⟩)]) ∧ w' = w.alloc (.cells #[.pointer (some ⟨p, 0, none⟩)] 314) := by
 go_enter Tryz.func215, Tryz.ntmps215
 go_wp2
 go_ret
 exact ⟨rfl, rfl⟩
end Go.Proofs.YthknocapablpaaaGreatDoor.Mg

/- The merge by definition, and that the heap's cells come so: plain laws. -/
namespace Go.Proofs.YthknocapablpaaaGreatDoor.Mg
set_option maxRecDepth 100000
open Go.RowKit

def hdR (rs : List (List Cel)) (i : Nat) : Cel := nth (nth rs i) 0
/-- Which row's first cell comes first, of the first k. -/
def bestUp (rs : List (List Cel)) : Nat → Option Nat
 | 0 => none
 | k + 1 => if 0 < (nth rs k).length then (match bestUp rs k with
  | none => some k
  | some b => if aheadC (hdR rs k) (hdR rs b) = true then some k else some b) else bestUp rs k
def mergeF : Nat → List (List Cel) → List Cel
 | 0, _ => []
 | n + 1, rs => match bestUp rs rs.length with
  | none => []
  | some i => hdR rs i :: mergeF n (rs.set i (nth rs i).tail)
def total (L : List (List Cel)) : Nat := (L.map List.length).sum
def mergeL (L : List (List Cel)) : List Cel := mergeF (total L) L

/-- Row i, at its place, stands ahead of row j. -/
def front (rs : List (List Cel)) (i j : Nat) : Int := or2 (cmpC (hdR rs i) (hdR rs j)) (cmpI i j)

theorem best_none (rs : List (List Cel)) : ∀ k, bestUp rs k = none → ∀ j, j < k → (nth rs j).length = 0
 | 0, _, j, h => by omega
 | k + 1, h, j, hj => by
  rw [bestUp] at h
  split at h
  ·split at h
   ·cases h
   ·split at h <;> cases h
  ·rename_i h0
   by_cases e : j = k
   ·subst e; omega
   ·exact best_none rs k h j (by omega)

theorem best_some (rs : List (List Cel)) : ∀ k i, bestUp rs k = some i → i < k ∧ 0 < (nth rs i).length ∧ ∀ j, j < k → j ≠ i → 0 < (nth rs j).length → front rs i j < 0
 | 0, i, h => by simp [bestUp] at h
 | k + 1, i, h => by
  rw [bestUp] at h
  split at h
  ·rename_i hk
   split at h
   ·rename_i hn
    cases h
    refine ⟨by omega, hk, fun j hj hji hjp => ?_⟩
    have := best_none rs k hn j (by omega); omega
   ·rename_i b hb
    obtain ⟨b1, b2, b3⟩ := best_some rs k b hb
    split at h
    ·rename_i ha
     cases h
     have ha' := (aheadC_iff _ _).1 ha
     refine ⟨by omega, hk, fun j hj hji hjp => ?_⟩
     have hlt : cmpC (hdR rs k) (hdR rs j) < 0 := by
      by_cases e : j = b
      ·subst e; exact ha'
      ·have h3 := b3 j (by omega) e hjp
       have h4 : cmpC (hdR rs b) (hdR rs j) ≤ 0 := by unfold front or2 at h3; split at h3 <;> omega
       exact cmpC_is.lt_le ha' h4
     unfold front or2; rw [if_neg (by omega)]; exact hlt
    ·rename_i ha
     cases h
     have ha' : ¬ cmpC (hdR rs k) (hdR rs i) < 0 := fun e => ha ((aheadC_iff _ _).2 e)
     refine ⟨by omega, b2, fun j hj hji hjp => ?_⟩
     by_cases e : j = k
     ·subst e
      have h1 : cmpC (hdR rs i) (hdR rs j) ≤ 0 := (cmpC_is.le _ _).2 (by omega)
      unfold front or2
      split
      ·unfold cmpI; rw [if_pos (by omega)]; omega
      ·omega
     ·exact b3 j (by omega) hji hjp
  ·rename_i h0
   obtain ⟨b1, b2, b3⟩ := best_some rs k i h
   refine ⟨by omega, b2, fun j hj hji hjp => ?_⟩
   by_cases e : j = k
   ·subst e; omega
   ·exact b3 j (by omega) hji hjp

theorem aliveF_mid : ∀ (k : Nat) (A : List (List Cel)) (x : List Cel) (B : List (List Cel)), aliveF k (A ++ x :: B) = aliveF k A ++ ((if x.length = 0 then [] else [(k + A.length, x)]) ++ aliveF (k + A.length + 1) B)
 | k, [], x, B => by simp only [List.nil_append, aliveF]; split <;> simp
 | k, y :: A, x, B => by
  have h := aliveF_mid (k + 1) A x B
  simp only [List.cons_append, aliveF, h, List.length_cons]
  have e1 : k + 1 + A.length = k + (A.length + 1) := by omega
  rw [e1]
  split <;> simp
theorem alive_mem : ∀ (k : Nat) (L : List (List Cel)) (i : Nat) (x : List Cel), (i, x) ∈ aliveF k L ↔ k ≤ i ∧ i < k + L.length ∧ nth L (i - k) = x ∧ 0 < x.length
 | k, [], i, x => by simp [aliveF]; omega
 | k, y :: t, i, x => by
  have h := alive_mem (k + 1) t i x
  have hn : ∀ j, nth (y :: t) (j + 1) = nth t j := fun j => by simp [nth]
  have h0 : nth (y :: t) 0 = y := by simp [nth]
  simp only [aliveF]
  split
  ·rename_i hy
   rw [h]
   constructor
   ·rintro ⟨a, b, c, d⟩
    refine ⟨by omega, by simp only [List.length_cons]; omega, ?_, d⟩
    rw [show i - k = (i - (k + 1)) + 1 by omega, hn]; exact c
   ·rintro ⟨a, b, c, d⟩
    simp only [List.length_cons] at b
    by_cases e : i = k
    ·subst e; rw [Nat.sub_self, h0] at c; subst c; omega
    ·rw [show i - k = (i - (k + 1)) + 1 by omega, hn] at c
     exact ⟨by omega, by omega, c, d⟩
  ·rename_i hy
   rw [List.mem_cons, h]
   constructor
   ·rintro (e | ⟨a, b, c, d⟩)
    ·simp only [Prod.mk.injEq] at e
     obtain ⟨rfl, rfl⟩ := e
     exact ⟨Nat.le_refl _, by simp, by rw [Nat.sub_self, h0], by omega⟩
    ·refine ⟨by omega, by simp only [List.length_cons]; omega, ?_, d⟩
     rw [show i - k = (i - (k + 1)) + 1 by omega, hn]; exact c
   ·rintro ⟨a, b, c, d⟩
    simp only [List.length_cons] at b
    by_cases e : i = k
    ·left; subst e; rw [Nat.sub_self, h0] at c; rw [c]
    ·right
     rw [show i - k = (i - (k + 1)) + 1 by omega, hn] at c
     exact ⟨by omega, by omega, c, d⟩

theorem nth_split {L : List (List Cel)} {i : Nat} (h : i < L.length) : L = L.take i ++ nth L i :: L.drop (i + 1) := by
 have : nth L i = L[i] := by simp [nth, h]
 rw [this, List.getElem_cons_drop]; simp

theorem total_perm (l : List Rw) (rs : List (List Cel)) (h : (l.map Rw.key).Perm (aliveF 0 rs)) : sumL l = total rs := by
 have h1 : sumL l = ((l.map Rw.key).map (fun q => q.2.length)).sum := by unfold sumL; rw [List.map_map]; rfl
 rw [h1, (h.map _).sum_nat]
 have : ∀ (k : Nat) (rs : List (List Cel)), ((aliveF k rs).map (fun q => q.2.length)).sum = (rs.map List.length).sum := by
  intro k rs
  induction rs generalizing k with
  | nil => rfl
  | cons y t ih =>
   simp only [aliveF]
   split
   ·rename_i hy; rw [ih, List.map_cons, List.sum_cons, hy]; omega
   ·rw [List.map_cons, List.sum_cons, ih, List.map_cons, List.sum_cons]
 exact this 0 rs

/-- The heap's least row is the one that the definition picks. -/
theorem root_best {l : List Rw} {rs : List (List Cel)} (hh : Heap ltR l.length l) (hp : (l.map Rw.key).Perm (aliveF 0 rs)) (hl : 0 < l.length) :
  bestUp rs rs.length = some (nth l 0).place ∧ nth rs (nth l 0).place = (nth l 0).xs ∧ (nth l 0).place < rs.length := by
 have hroot := heap_root ltR ltR_ord hh
 have hm : ((nth l 0).place, (nth l 0).xs) ∈ aliveF 0 rs := hp.mem_iff.1 (List.mem_map.2 ⟨nth l 0, nth_mem hl, rfl⟩)
 obtain ⟨_, m2, m3, m4⟩ := (alive_mem 0 rs _ _).1 hm
 simp only [Nat.zero_add, Nat.sub_zero] at m2 m3
 refine ⟨?_, m3, m2⟩
 cases hb : bestUp rs rs.length with
 | none => have := best_none rs _ hb _ m2; rw [m3] at this; omega
 | some i =>
  obtain ⟨b1, b2, b3⟩ := best_some rs _ i hb
  by_cases e : (nth l 0).place = i
  ·rw [e]
  ·have hmi : (i, nth rs i) ∈ l.map Rw.key := hp.mem_iff.2 ((alive_mem 0 rs _ _).2 ⟨Nat.zero_le _, by omega, by simp, b2⟩)
   obtain ⟨x, hx, hxk⟩ := List.mem_map.1 hmi
   have hx1 : x.place = i := congrArg Prod.fst hxk
   have hx2 : x.xs = nth rs i := congrArg Prod.snd hxk
   obtain ⟨k, hk, hxe⟩ := List.getElem_of_mem hx
   have h1 := hroot k hk
   have hnk : nth l k = x := by simp [nth, hk, hxe]
   rw [hnk, ltR_false] at h1
   have h2 := b3 _ m2 e (by rw [m3]; exact m4)
   have h3 : cmpR x (nth l 0) = front rs i (nth l 0).place := by
    unfold cmpR front hdR; rw [hx1, hx2, m3]
   omega

theorem drain_merge : ∀ (n : Nat) (l : List Rw) (rs : List (List Cel)), Heap ltR l.length l → (∀ r ∈ l, 0 < r.xs.length) → (l.map Rw.key).Perm (aliveF 0 rs) → drainL n l = mergeF n rs
 | 0, _, _, _, _, _ => rfl
 | n + 1, l, rs, hh, hpos, hp => by
  rw [drainL, mergeF]
  by_cases hl : l.length = 0
  ·rw [if_pos hl]
   have hnil : aliveF 0 rs = [] := by
    have := hp.length_eq
    rw [List.length_map, hl] at this
    exact List.eq_nil_of_length_eq_zero this.symm
   cases hb : bestUp rs rs.length with
   | none => rfl
   | some i =>
    obtain ⟨b1, b2, _⟩ := best_some rs _ i hb
    have : (i, nth rs i) ∈ aliveF 0 rs := (alive_mem 0 rs _ _).2 ⟨Nat.zero_le _, by omega, by simp, b2⟩
    rw [hnil] at this; cases this
  ·rw [if_neg hl]
   have hl0 : 0 < l.length := by omega
   have hne : l ≠ [] := fun e => by rw [e] at hl; simp at hl
   obtain ⟨r1, r2, r3⟩ := root_best hh hp hl0
   rw [r1]
   show _ = hdR rs (nth l 0).place :: _
   have e1 : hdR rs (nth l 0).place = nth (nth l 0).xs 0 := by unfold hdR; rw [r2]
   rw [e1, r2]
   obtain ⟨i, hi⟩ : ∃ i, (nth l 0).place = i := ⟨_, rfl⟩
   have hpop := pop_perm ltR hne
   have hphp := pop_heap ltR ltR_ord hne hh
   have h0 : 0 < (nth l 0).xs.length := hpos _ (nth_mem hl0)
   rw [hi] at r1 r2 r3 ⊢
   -- what is left beside the least row
   have hsplit := nth_split r3
   have hal : aliveF 0 rs = aliveF 0 (rs.take i) ++ ([(i, (nth l 0).xs)] ++ aliveF (i + 1) (rs.drop (i + 1))) := by
    conv => lhs; rw [hsplit, aliveF_mid]
    rw [r2, if_neg (by omega), List.length_take, Nat.min_eq_left (by omega), Nat.zero_add]
   have hrest : ((popL ltR l).map Rw.key).Perm (aliveF 0 (rs.take i) ++ aliveF (i + 1) (rs.drop (i + 1))) := by
    have q1 := (hpop.map Rw.key).trans hp
    rw [hal] at q1
    have e2 : Rw.key (nth l 0) = (i, (nth l 0).xs) := by unfold Rw.key; rw [hi]
    rw [List.map_cons, e2] at q1
    exact (List.perm_cons _).1 (q1.trans List.perm_middle)
   have hset : rs.set i (nth l 0).xs.tail = rs.take i ++ (nth l 0).xs.tail :: rs.drop (i + 1) := set_eq_take_drop rs i _ r3
   have hals : aliveF 0 (rs.set i (nth l 0).xs.tail) = aliveF 0 (rs.take i) ++ ((if (nth l 0).xs.tail.length = 0 then [] else [(i, (nth l 0).xs.tail)]) ++ aliveF (i + 1) (rs.drop (i + 1))) := by
    rw [hset, aliveF_mid, List.length_take, Nat.min_eq_left (by omega), Nat.zero_add]
   congr 1
   refine drain_merge n (nextL l) _ ?_ ?_ ?_
   ·unfold nextL
    split
    ·exact push_heap ltR ltR_ord _ hphp
    ·exact hphp
   ·intro x hx
    unfold nextL at hx
    split at hx
    ·rename_i h1
     rcases List.mem_cons.1 ((push_perm ltR _ _).mem_iff.1 hx) with rfl | hx
     ·show 0 < (nth l 0).xs.tail.length; rw [List.length_tail]; omega
     ·exact hpos x (hpop.mem_iff.1 (List.mem_cons_of_mem _ hx))
    ·exact hpos x (hpop.mem_iff.1 (List.mem_cons_of_mem _ hx))
   ·rw [hals]
    unfold nextL
    split
    ·rename_i h1
     rw [if_neg (by rw [List.length_tail]; omega)]
     have q1 := (push_perm ltR (popL ltR l) (nth l 0).tl).map Rw.key
     have e2 : Rw.key (nth l 0).tl = (i, (nth l 0).xs.tail) := by show ((nth l 0).place, (nth l 0).xs.tail) = _; rw [hi]
     rw [List.map_cons, e2] at q1
     exact q1.trans ((hrest.cons _).trans (by simpa using List.perm_middle.symm))
    ·rename_i h1
     rw [if_pos (by rw [List.length_tail]; omega), List.nil_append]
     exact hrest
end Go.Proofs.YthknocapablpaaaGreatDoor.Mg

/- merges.All, walked. -/
namespace Go.Proofs.YthknocapablpaaaGreatDoor.Mg
set_option maxRecDepth 100000
open Go.RowKit

theorem ItAt.ownI_ge {w : World} {base p : Nat} {v : Value} {l : List Rw} (h : ItAt w base p v l) : ∀ b, OwnI p v l b → base ≤ b := by
 rintro b (e | ⟨r, hr, rfl⟩)
 ·exact h.mine b e
 ·exact h.above.2 r hr

end Go.Proofs.YthknocapablpaaaGreatDoor.Mg

/- A region that draws its order, inside a round of a range over a function: as outside of one, where it neither defers nor outgrows. -/
namespace Go.Proofs.YthknocapablpaaaGreatDoor.Mg
set_option maxRecDepth 100000
open Go.RowKit

def Oper.calm (o : Oper) : Bool := match o.op with
 | .defer _ => false
 | _ => true
theorem calm_ne {o : Oper} (h : Oper.calm o = true) : ∀ c, o.op ≠ .defer c := by
 intro c e; unfold Oper.calm at h; rw [e] at h; cases h

theorem wp_in_round {P : Program} {o : Oper} {a : Act} {w : World} {K : Act → World → Prop} {Q : Exit → Act → World → Prop} (l n : Nat) (hc : Oper.calm o = true) (h : o.wp P a w K Q) : o.wpIn (Fence.wide.inRound l) n P a w K Q := by
 unfold Oper.wpIn
 refine ⟨fun _ _ => trivial, ?_⟩
 rw [Oper.semAt_plain _ _ _ (calm_ne hc)]
 unfold Oper.wp at h
 generalize (execOp a.eval o).run P w = r at h
 cases r with
 | ok x w' =>
  cases x with
  | value v => exact h
  | skip => exact h
  | defer d => exact h
  | enter f args => exact ⟨fun hh => (by cases hh), callsIn_wide.2 h⟩
  | row row args =>
   refine ⟨fun hh => (by cases hh), fun c cs _ => ?_⟩
   obtain ⟨v, w2, hR, hs⟩ := h c cs
   exact ⟨v, w2, hR, stepsIn_wide.2 hs⟩
  | _ => exact h.elim
 | halt hh w' =>
  cases hh with
  | panic v => exact h
  | _ => exact h.elim

theorem anyH_in_round {P : Program} {md : Region.Mode} {ops : Array Oper} {Q : Exit → Act → World → Prop} {S : World → Prop} (l n : Nat) (hc : ops.all Oper.calm = true) (hQ : ¬ LetsOut Q) : ∀ (fuel : Nat) (listed : Array Bool) (a : Act) (w : World),
  wpAnyH P md ops Q S fuel listed a w → wpAnyIn (Fence.wide.inRound l) n P md ops Q fuel listed a w
 | 0, _, _, _, h => h
 | fuel + 1, listed, a, w, h => by
  refine ⟨h.1, fun i hi => ?_⟩
  have h2 := h.2 i hi
  unfold wpOp at h2
  unfold wpOpIn
  cases ho : ops[i]? with
  | none => rw [ho] at h2; exact anyH_in_round l n hc hQ fuel _ _ _ h2.2
  | some o =>
   rw [ho] at h2
   have hco : Oper.calm o = true := by
    have hm : o ∈ ops := Array.mem_of_getElem? ho
    exact Array.all_eq_true_iff_forall_mem.1 hc o hm
   simp only at h2 ⊢
   split
   ·rename_i hw
    rw [if_pos hw] at h2
    rcases h2 with h2 | h2
    ·exact wp_in_round l n hco (Oper.wp_mono (fun a' w' h3 => anyH_in_round l n hc hQ fuel _ _ _ h3.2) h2)
    ·exact absurd h2.2 hQ
   ·rename_i hw
    rw [if_neg hw] at h2
    exact ⟨fun _ _ => trivial, anyH_in_round l n hc hQ fuel _ _ _ h2.2⟩

theorem round_region {P : Program} {id : Nat} {ops : Array Oper} {Q : Exit → Act → World → Prop} {S : World → Prop} {a : Act} {w : World} (l n : Nat) (hm : P.follows .mixedOrders = true) (hc : ops.all Oper.calm = true) (hQ : ¬ LetsOut Q)
  (hS : S w.drew) (h : S w.drew → wpAnyH P .any ops Q S ops.size (Array.replicate ops.size false) a w.drew) : (Code.region id ops true).wpIn (Fence.wide.inRound l) n P Q a w :=
 wpIn_region_any hm (anyH_in_round l n hc hQ _ _ _ _ (h hS))
end Go.Proofs.YthknocapablpaaaGreatDoor.Mg

