/- merges.Iter.Next: the cell that comes first. -/
import Derived.Test.YtfhpjopdndnmgaaNew
namespace Go.Proofs.Ytfhpjopdndnmgaa
open Go.RowKit

/-- A row behind its first cell. -/
def Rw.tl (r : Rw) : Rw := ⟨r.blk, r.off + 3, r.cap - 1, r.xs.tail, r.place⟩
/-- The heap behind a cell that has come. -/
def nextL (l : List Rw) : List Rw := if 1 < (nth l 0).xs.length then pushL ltR (popL ltR l) (nth l 0).tl else popL ltR l

theorem slice_one (g o len cap : Nat) (h1 : 0 < len) (h2 : len ≤ cap) : ∃ X : Addr, (1 < len → X = ⟨g, o + 3, none⟩) ∧
    ∀ w, (Instr.slice 25 (.slice (some ⟨g, o, none⟩) len cap) (some (.int .i64 1)) none none).run Try.prog w = .ok (.slice (some X) (len - 1) (cap - 1)) w := by
  have i2 : (1 : Int) ≤ (len : Int) := by omega
  have i3 : (len : Int) ≤ (cap : Int) := by omega
  by_cases hc : cap = 1
  · have hl : len = 1 := by omega
    subst hl; subst hc
    exact ⟨⟨g, o, none⟩, fun h => by omega, fun w => by simp [go_sem]⟩
  · exact ⟨⟨g, o + 3, none⟩, fun _ => rfl, fun w => by simp [go_sem, hc, i2]⟩

theorem GoodR.tail {w : World} {r : Rw} (h : GoodR w r) (h1 : 1 < r.xs.length) : GoodR w r.tl := by
  obtain ⟨c, t, ht⟩ : ∃ c t, r.xs = c :: t := by
    cases hx : r.xs with
    | nil => rw [hx] at h1; simp at h1
    | cons c t => exact ⟨c, t, rfl⟩
  refine ⟨?_, ?_, ?_, h.pl, fun j u hu => ?_⟩
  · show 0 < r.xs.tail.length; rw [List.length_tail]; omega
  · show r.xs.tail.length ≤ 1000; have := h.len; rw [List.length_tail]; omega
  · show r.xs.tail.length ≤ r.cap - 1; have := h.fit; rw [List.length_tail]; omega
  · have h2 := h.at_ (3 + j) u (by
      have e : r.tl.xs = t := by show r.xs.tail = t; rw [ht]; rfl
      rw [e] at hu
      rw [ht]
      show (Value.string c.k :: .int .i64 c.s :: .string c.v :: cellsC t)[3 + j]? = some u
      rw [show 3 + j = j + 1 + 1 + 1 by omega]
      simpa using hu)
    show w.cell? ⟨r.blk, r.off + 3 + j, none⟩ = some u
    rw [show r.off + 3 + j = r.off + (3 + j) by omega]; exact h2

set_option maxHeartbeats 2000000 in
theorem next_none {w : World} {base p : Nat} {v : Value} {l : List Rw} (h : HeapAt w base p v l) (hl : l.length = 0) :
    Calls Try.prog 19 #[.pointer (some ⟨p, 0, none⟩)] w fun e w' => e = .returned (.tuple #[.agg #[.string ⟨#[]⟩, .int .i64 0, .string ⟨#[]⟩], .bool false]) ∧ Kept (fun _ => False) w w' := by
  have hc := h.cell
  have hlt := World.block_lt_of_cell? _ _ hc
  simp only at hlt
  obtain ⟨ao, cap, rfl⟩ := h.slice
  have h0 : ((l.length : Nat) : Int) = 0 := by rw [hl]; rfl
  rw [hl] at hc
  clear h hl h0
  go_enter Try.func19, Try.ntmps19
  go_wp2
  refine bodyPost_ret (v := _) (by simp [results, Try.results19, go_sem]; try rfl) rfl ?_
  refine ⟨rfl, ?_⟩
  repeat (first | exact Kept.refl _ _ | apply Kept.alloc | apply Kept.drew | (refine Kept.setAt (fun hh => absurd hh (by simp)) ?_))

theorem HeapAt.keptS {S : Nat → Prop} {w w' : World} {base p : Nat} {v : Value} {l : List Rw} (h : HeapAt w base p v l) (hK : Kept S w w') (hp : ¬ S p) (hv : ∀ b, v.ownBlock = some b → ¬ S b) (hr : ∀ r ∈ l, ¬ S r.blk) : HeapAt w' base p v l := by
  refine ⟨hK.cell h.cell hp, hK.frozen h.fz (World.block_lt_of_cell? _ _ h.cell) hp, ?_, fun r hm => (h.good r hm).kept hK (hr r hm), h.np, h.nr, h.few⟩
  obtain ⟨h1, h2⟩ := h.own
  refine ⟨h1, ?_⟩
  rcases h2 with h2 | ⟨g, cap, cur, rfl, hb, hg, rest⟩
  · exact .inl h2
  · exact .inr ⟨g, cap, cur, rfl, hb, (hK.block g (Array.getElem?_eq_some_iff.1 hg).1 (hv g rfl)).trans hg, rest⟩

set_option maxRecDepth 100000 in
set_option maxHeartbeats 4000000 in
theorem next_some {w : World} {base p : Nat} {v : Value} {l : List Rw} (h : ItAt w base p v l) (hl : 0 < l.length) (hb : base ≤ w.heap.size) :
    Calls Try.prog 19 #[.pointer (some ⟨p, 0, none⟩)] w fun e w' => e = .returned (.tuple #[.agg #[.string (nth (nth l 0).xs 0).k, .int .i64 (nth (nth l 0).xs 0).s, .string (nth (nth l 0).xs 0).v], .bool true]) ∧
      ∃ v', ItAt w' base p v' (nextL l) ∧ Kept (mine p v) w w' ∧ (v'.ownBlock = v.ownBlock ∨ ∀ b, v'.ownBlock = some b → w.heap.size ≤ b) := by
  have hc := h.heap.cell
  have hlt := World.block_lt_of_cell? _ _ hc
  simp only at hlt
  obtain ⟨ao, cap, rfl⟩ := h.heap.slice
  have hne : ¬ (l.length = 0) := by omega
  have hne2 : ¬ ((l.length : Nat) : Int) = 0 := by omega
  have hl0 : l ≠ [] := fun e => by rw [e] at hl; simp at hl
  obtain ⟨r, hr⟩ : ∃ r, nth l 0 = r := ⟨_, rfl⟩
  have hrg := h.heap.good r (hr ▸ nth_mem hl)
  have hrn := h.heap.nr r (hr ▸ nth_mem hl)
  have hab := h.above.2 r (hr ▸ nth_mem hl)
  have hta := assert58
  have HP := Lib.hid (pop_heap ltR ltR_ord hl0 h.hp)
  have PP := Lib.hid (pop_perm ltR hl0)
  have H := Lib.hid h; have R := Lib.hid hr; have RG := Lib.hid hrg; have RN := Lib.hid hrn; have RA := Lib.hid hab; have NE := Lib.hid hl0
  clear h hrg hrn hab hl0
  rw [hr]
  clear hr
  obtain ⟨c, hc0⟩ : ∃ c, nth r.xs 0 = c := ⟨_, rfl⟩
  rw [hc0]
  have HC := Lib.hid hc0; clear hc0
  go_enter Try.func19, Try.ntmps19
  go_wp2_with fail
  refine (heap_pop (H.out.heap.kept ((Kept.refl (fun _ => False) w).alloc _)) hl).mono ?_
  rw [R.out]
  rintro e w1 ⟨rfl, v1, h1, k1, a1⟩
  have hn2 : ¬ mine p (.slice ao l.length cap) w.heap.size := by
    rintro (e | e)
    · omega
    · have := (H.out.heap.own.lt _ e).2; omega
  obtain ⟨f0, f1, f2, ff, fl⟩ := k1.fresh3 hn2
  have kw1 : Kept (mine p (.slice ao l.length cap)) w w1 := ((Kept.refl (fun _ => False) w).alloc _).trans k1 (fun _ _ f => f.elim) (fun _ _ h => h)
  have hmr : ¬ mine p (.slice ao l.length cap) r.blk := by
    rintro (e | e)
    · exact RN.out.1 e
    · exact RN.out.2 e
  have g1 := RG.out.kept kw1 hmr
  obtain ⟨c0, c1, c2⟩ := g1.hd
  have hrl := World.block_lt_of_cell? _ _ c0
  simp only at hrl
  obtain ⟨m, hm⟩ : ∃ m, r.xs.length - 1 = m := ⟨_, rfl⟩
  obtain ⟨X, hX, hsl⟩ := slice_one r.blk r.off r.xs.length r.cap g1.ne g1.fit
  rw [hm] at hsl
  have j1 : (0 : Int) < (r.xs.length : Int) := by have := g1.ne; omega
  rw [HC.out] at c0 c1 c2
  obtain ⟨fz0, fz1, fz2⟩ : w1.frozen? ⟨w.heap.size, 0, none⟩ = false ∧ w1.frozen? ⟨w.heap.size, 1, none⟩ = false ∧ w1.frozen? ⟨w.heap.size, 2, none⟩ = false := ⟨ff 0, ff 1, ff 2⟩
  have H1 := Lib.hid h1; have K1 := Lib.hid kw1; have A1 := Lib.hid a1; have G1 := Lib.hid g1; have M := Lib.hid hm; have XX := Lib.hid hX
  have NM := Lib.hid hn2
  clear h1 k1 kw1 a1 g1 hm hX hn2 hmr ff hc
  have xne : w.heap.size ≠ w1.heap.size := by omega
  by_cases hm0 : m = 0
  · have e0 : ¬ (0 : Int) < (m : Int) := by omega
    have M0 := Lib.hid hm0; clear hm0
    go_wp2
    refine bodyPost_ret (v := _) (by simp [results, Try.results19, go_sem, f0, f1, f2, fl, Nat.lt_succ_of_lt fl]; try rfl) rfl ?_
    refine ⟨rfl, v1, ?_, ?_, .inl A1.out⟩
    · have kF : Kept (fun b => w.heap.size = b) w1 (((((w1.setCell ⟨w.heap.size, 0, none⟩ (.string c.k)).setCell ⟨w.heap.size, 1, none⟩ (.int .i64 c.s)).setCell ⟨w.heap.size, 2, none⟩ (.string c.v)).alloc (.cells #[.slice (some X) m (r.cap - 1), .int .i64 r.place] 58)).alloc (.cells #[.string c.k, .int .i64 c.s, .string c.v] 36)) :=
        Kept.alloc (Kept.alloc (Kept.setAt (fun _ => rfl) (Kept.setAt (fun _ => rfl) (Kept.setAt (fun _ => rfl) (Kept.refl _ w1)))) _) _
      have e : nextL l = popL ltR l := by unfold nextL; rw [R.out, if_neg (by have := M.out; have := M0.out; omega)]
      rw [e]
      exact ⟨H1.out.keptS kF (by omega) (fun b hb e => by rw [A1.out] at hb; have := (H.out.heap.own.lt _ hb).2; omega) (fun x hx e => by
          have hx2 : x ∈ l := PP.out.mem_iff.1 (List.mem_cons_of_mem _ hx)
          have := World.block_lt_of_cell? _ _ (H.out.heap.good x hx2).hd.1
          simp only at this; omega), HP.out, H.out.above.1, fun x hx => H.out.above.2 x (PP.out.mem_iff.1 (List.mem_cons_of_mem _ hx))⟩
    · exact K1.out.trans (S' := fun b => w.heap.size = b) (Kept.alloc (Kept.alloc (Kept.setAt (fun _ => rfl) (Kept.setAt (fun _ => rfl) (Kept.setAt (fun _ => rfl) (Kept.refl _ w1)))) _) _) (fun _ _ h => h) (fun i hi e => by omega)
  · have e0 : (0 : Int) < (m : Int) := by omega
    have hX1 := XX.out (by have := M.out; omega)
    subst hX1
    have M0 := Lib.hid hm0; clear hm0
    have htl : r.tl.xs.length = m := by show r.xs.tail.length = m; rw [List.length_tail]; exact M.out
    have TL := Lib.hid htl; clear htl
    have NM1 : ¬ mine p v1 w.heap.size := fun e => NM.out (e.imp id (fun h => by rw [← A1.out]; exact h))
    have NM5 : ¬ mine p v1 (w1.heap.size + 1) := by
      rintro (e | e)
      · omega
      · have := (H1.out.own.lt _ e).2; omega
    have HN1 := Lib.hid NM1; have HN5 := Lib.hid NM5; clear NM1 NM5
    go_upto_region 7 with fail
    refine wp_region_held_drew (S := (fun w' => w'.cell? ⟨w1.heap.size, 0, none⟩ = some (.slice (some ⟨r.blk, r.off + 3, none⟩) m (r.cap - 1)) ∧ w'.cell? ⟨w1.heap.size, 1, none⟩ = some (.int .i64 r.place))) (by kernel_rfl) ?_ (fun hHeld => ?_)
    · first | go_keep | (go_split_ands; (simp [go_sem, *]; done))
    refine wpAnyH_take (i := 0) (v := ?_) opAt0 (by kernel_rfl) (by kernel_rfl) (by kernel_rfl) (fun _ _ _ h => h) (Or.inl ⟨by rfl, ?_⟩) hHeld ?_
    case refine_2 => (intro w hSw; (try dsimp only at hSw); go_simp; all_goals (with_reducible rfl))
    (try simp only [Act.put]); (try simp only [List.setIfInBounds_toArray]); (try simp only [List.set_cons_succ]); (try simp only [List.set_cons_zero])
    refine wpAnyH_take (i := 1) (v := ?_) opAt1 (by kernel_rfl) (by kernel_rfl) (by kernel_rfl) (fun _ _ _ h => h) (Or.inl ⟨by rfl, ?_⟩) hHeld ?_
    case refine_2 => (intro w hSw; (try dsimp only at hSw); go_simp; all_goals (with_reducible rfl))
    (try simp only [Act.put]); (try simp only [List.setIfInBounds_toArray]); (try simp only [List.set_cons_succ]); (try simp only [List.set_cons_zero])
    refine wpAnyH_take (i := 2) (v := ?_) opAt2 (by kernel_rfl) (by kernel_rfl) (by kernel_rfl) (fun _ _ _ h => h) (Or.inl ⟨by rfl, ?_⟩) hHeld ?_
    case refine_2 => (intro w hSw; (try dsimp only at hSw); go_simp; all_goals (with_reducible rfl))
    (try simp only [Act.put]); (try simp only [List.setIfInBounds_toArray]); (try simp only [List.set_cons_succ]); (try simp only [List.set_cons_zero])
    refine wpAnyH_take (i := 3) (v := ?_) opAt3 (by kernel_rfl) (by kernel_rfl) (by kernel_rfl) (fun _ _ _ h => h) (Or.inl ⟨by rfl, ?_⟩) hHeld ?_
    case refine_2 => (intro w hSw; (try dsimp only at hSw); go_simp; all_goals (with_reducible rfl))
    (try simp only [Act.put]); (try simp only [List.setIfInBounds_toArray]); (try simp only [List.set_cons_succ]); (try simp only [List.set_cons_zero])
    refine wpAnyH_take (i := 4) (v := ?_) opAt4 (by kernel_rfl) (by kernel_rfl) (by kernel_rfl) (fun _ _ _ h => h) (Or.inl ⟨by rfl, ?_⟩) hHeld ?_
    case refine_2 => (intro w hSw; (try dsimp only at hSw); go_simp; all_goals (with_reducible rfl))
    (try simp only [Act.put]); (try simp only [List.setIfInBounds_toArray]); (try simp only [List.set_cons_succ]); (try simp only [List.set_cons_zero])
    refine wpAnyH_take (i := 5) (v := ?_) opAt5 (by kernel_rfl) (by kernel_rfl) (by kernel_rfl) (fun _ _ _ h => h) (Or.inl ⟨by rfl, ?_⟩) hHeld ?_
    case refine_2 => (intro w hSw; (try dsimp only at hSw); go_simp; all_goals (with_reducible rfl))
    (try simp only [Act.put]); (try simp only [List.setIfInBounds_toArray]); (try simp only [List.set_cons_succ]); (try simp only [List.set_cons_zero])
    refine wpAnyH_ready (rs := [6]) (by kernel_rfl) (by simp) ?_
    refine AllReadyH.cons opAt6 (fun K hK => ?_) AllReadyH.nil
    go_simp
    go_at_call 31; have hp := heap_push (r := r.tl) (H1.out.kept (Kept.drew (Kept.alloc (Kept.alloc (Kept.refl (fun _ => False) w1) (.cells #[.slice (some ⟨r.blk, r.off + 3, none⟩) m (r.cap - 1), .int .i64 r.place] 58)) (.cells #[.string c.k, .int .i64 c.s, .string c.v] 36)))) ((G1.out.tail (by have := M.out; have := M0.out; omega)).kept (Kept.drew (Kept.alloc (Kept.alloc (Kept.refl (fun _ => False) w1) (.cells #[.slice (some ⟨r.blk, r.off + 3, none⟩) m (r.cap - 1), .int .i64 r.place] 58)) (.cells #[.string c.k, .int .i64 c.s, .string c.v] 36))) (fun f => f)) RN.out.1 (by rw [A1.out]; exact RN.out.2) (by rw [length_pop ltR NE.out]; have := H.out.heap.few; omega) (by have := K1.out.size; simp; omega); rw [TL.out] at hp; refine hp.mono ?_; clear hp; rintro e w5 ⟨rfl, v5, h5, k5, a5⟩; have H5 := Lib.hid h5; have K5 := Lib.hid k5; have A5 := Lib.hid a5; clear h5 k5 a5; have q0 := K5.out.cell (a := ⟨w1.heap.size + 1, 0, none⟩) (v := .string c.k) (by simp [go_sem]) HN5.out; have q1 := K5.out.cell (a := ⟨w1.heap.size + 1, 1, none⟩) (v := .int .i64 c.s) (by simp [go_sem]) HN5.out; have q2 := K5.out.cell (a := ⟨w1.heap.size + 1, 2, none⟩) (v := .string c.v) (by simp [go_sem]) HN5.out; have s0 := K5.out.cell (a := ⟨w.heap.size, 0, none⟩) (v := .string ⟨#[]⟩) (by simp [go_sem, f0, fl]) HN1.out; have t0 := K5.out.frozen (a := ⟨w.heap.size, 0, none⟩) (by simp [go_sem, fz0, fl]) (by simp; omega) HN1.out; have s1 := K5.out.cell (a := ⟨w.heap.size, 1, none⟩) (v := .int .i64 0) (by simp [go_sem, f1, fl]) HN1.out; have t1 := K5.out.frozen (a := ⟨w.heap.size, 1, none⟩) (by simp [go_sem, fz1, fl]) (by simp; omega) HN1.out; have s2 := K5.out.cell (a := ⟨w.heap.size, 2, none⟩) (v := .string ⟨#[]⟩) (by simp [go_sem, f2, fl]) HN1.out; have t2 := K5.out.frozen (a := ⟨w.heap.size, 2, none⟩) (by simp [go_sem, fz2, fl]) (by simp; omega) HN1.out; dsimp only
    refine hK.out _ _ ?_ (fun hHeld => ?_)
    · exact ⟨K5.out.cell hHeld.1 (show ¬ mine p v1 w1.heap.size by rintro (e | e); exact absurd e (by omega); have := (H1.out.own.lt _ e).2; omega), K5.out.cell hHeld.2 (show ¬ mine p v1 w1.heap.size by rintro (e | e); exact absurd e (by omega); have := (H1.out.own.lt _ e).2; omega)⟩
    clear hK K
    (try simp only [Act.put]); (try simp only [List.setIfInBounds_toArray]); (try simp only [List.set_cons_succ]); (try simp only [List.set_cons_zero])
    refine wpAnyH_done (by kernel_rfl) ?_ _
    go_wp2
    refine bodyPost_ret (v := _) (by simp [results, Try.results19, go_sem, s0, s1, s2]; try rfl) rfl ?_
    have kF : Kept (fun b => w.heap.size = b) w5 (((w5.setCell ⟨w.heap.size, 0, none⟩ (.string c.k)).setCell ⟨w.heap.size, 1, none⟩ (.int .i64 c.s)).setCell ⟨w.heap.size, 2, none⟩ (.string c.v)) :=
      Kept.setAt (fun _ => rfl) (Kept.setAt (fun _ => rfl) (Kept.setAt (fun _ => rfl) (Kept.refl _ w5)))
    have kW : Kept (fun _ => False) w1 ((w1.alloc (.cells #[.slice (some ⟨r.blk, r.off + 3, none⟩) m (r.cap - 1), .int .i64 r.place] 58)).alloc (.cells #[.string c.k, .int .i64 c.s, .string c.v] 36)).drew := Kept.drew (Kept.alloc (Kept.alloc (Kept.refl _ w1) _) _)
    have hA5 : v5.ownBlock = v1.ownBlock ∨ ∀ b, v5.ownBlock = some b → w1.heap.size ≤ b := A5.out.imp id (fun h b hb => Nat.le_trans kW.size (h b hb))
    have hkeep : Kept (mine p (.slice ao l.length cap)) w w5 := (K1.out.trans kW (fun _ _ h => h) (fun _ _ f => f.elim)).trans K5.out (fun _ _ h => h) (fun b _ hb => hb.imp id (fun h => by rw [← A1.out]; exact h))
    have hm5 : ∀ x, x ∈ pushL ltR (popL ltR l) r.tl → x = r.tl ∨ x ∈ l := fun x hx => by
      rcases List.mem_cons.1 ((push_perm ltR _ _).mem_iff.1 hx) with e | e
      · exact .inl e
      · exact .inr (PP.out.mem_iff.1 (List.mem_cons_of_mem _ e))
    have e : nextL l = pushL ltR (popL ltR l) r.tl := by unfold nextL; rw [R.out, if_pos (by have := M.out; have := M0.out; omega)]
    refine ⟨rfl, v5, ?_, hkeep.trans kF (fun _ _ h => h) (fun i hi e => by omega), ?_⟩
    · rw [e]
      refine ⟨H5.out.keptS kF (by omega) (fun b hb e => ?_) (fun x hx e => ?_), push_heap ltR ltR_ord _ HP.out, H.out.above.1, fun x hx => ?_⟩
      · rcases hA5 with h5 | h5
        · rw [h5, A1.out] at hb; have := (H.out.heap.own.lt _ hb).2; omega
        · have := h5 b hb; omega
      · rcases hm5 x hx with rfl | hx
        · have := World.block_lt_of_cell? _ _ RG.out.hd.1
          have e2 : w.heap.size = r.blk := e
          simp only at this; omega
        · have := World.block_lt_of_cell? _ _ (H.out.heap.good x hx).hd.1
          simp only at this; omega
      · rcases hm5 x hx with rfl | hx
        · exact RA.out
        · exact H.out.above.2 x hx
    · rcases hA5 with h5 | h5
      · exact .inl (h5.trans A1.out)
      · exact .inr fun b hb => Nat.le_trans K1.out.size (h5 b hb)
end Go.Proofs.Ytfhpjopdndnmgaa
