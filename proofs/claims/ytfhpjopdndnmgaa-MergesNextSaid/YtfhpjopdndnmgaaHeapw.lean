/- The two methods of merges.rows that change how many rows there are: Push, Pop. -/
import Derived.Test.YtfhpjopdndnmgaaRowh
import Derived.Test.YtfhpjopdndnmgaaHx
namespace Go.Proofs.Ytfhpjopdndnmgaa
open Go.RowKit

theorem inf58 : (Try.prog.info? 58).map (fun i => (i.zero, i.size, i.bytes)) = some (some (.agg #[.slice none 0 0, .int .i64 0]), 2, 32) := by kernel_rfl
theorem assert58 (x : Value) (W : World) : (Instr.typeAssert (.iface 58 x) 20 58 false).run Try.prog W = .ok x W := by kernel_rfl
def Rw.val (r : Rw) : Value := .agg #[.slice (some ⟨r.blk, r.off, none⟩) r.xs.length r.cap, .int .i64 r.place]
/-- Which blocks the heap's own acts may turn. -/
def mine (p : Nat) (v : Value) (b : Nat) : Prop := b = p ∨ v.ownBlock = some b

theorem HeapAt.new {w w2 : World} {base p : Nat} {v v' : Value} {l l' : List Rw} (h : HeapAt w base p v l) (hK : Kept (fun b => v.ownBlock = some b) w w2) (ho : w2.ownsRow base 58 2 v' l'.length (cellsH l'))
    (hat : v'.ownBlock = v.ownBlock ∨ ∀ b, v'.ownBlock = some b → w.heap.size ≤ b) (hg : ∀ r ∈ l', GoodR w r ∧ r.blk ≠ p ∧ v.ownBlock ≠ some r.blk) (few : l'.length ≤ 100) :
    HeapAt (w2.setCell ⟨p, 0, none⟩ v') base p v' l' ∧ Kept (mine p v) w (w2.setCell ⟨p, 0, none⟩ v') := by
  have hp := World.block_lt_of_cell? _ _ h.cell
  simp only at hp
  have hnp : v'.ownBlock ≠ some p := by
    rcases hat with e | e
    · rw [e]; exact h.np
    · intro f; have := e p f; omega
  have hK2 : Kept (mine p v) w (w2.setCell ⟨p, 0, none⟩ v') := Kept.setAt (fun _ => .inl rfl) (hK.mono (fun k _ hk => .inr hk))
  have c2 := hK.cell h.cell h.np
  refine ⟨⟨World.cell?_setCell_same' _ _ _ (by rw [c2]; rfl), by rw [World.frozen?_setCell]; exact hK.frozen h.fz hp h.np, ownsRow_setCell_other ho hnp _, fun r hr => ?_, hnp, fun r hr => ?_, few⟩, hK2⟩
  · obtain ⟨h1, h2, h3⟩ := hg r hr
    exact h1.kept hK2 (fun e => e.elim h2 h3)
  · obtain ⟨h1, h2, h3⟩ := hg r hr
    refine ⟨h2, ?_⟩
    rcases hat with e | e
    · rw [e]; exact h3
    · intro f
      have := e _ f
      have := World.block_lt_of_cell? _ _ h1.hd.1
      simp only at this
      omega

set_option maxHeartbeats 2000000 in
theorem rows_push {w : World} {base p : Nat} {v : Value} {l : List Rw} {r : Rw} (h : HeapAt w base p v l) (hr : GoodR w r) (hrp : r.blk ≠ p) (hrv : v.ownBlock ≠ some r.blk) (hl : l.length < 100) (hb : base ≤ w.heap.size) :
    Calls Try.prog 69 #[.pointer (some ⟨p, 0, none⟩), .iface 58 (.agg #[.slice (some ⟨r.blk, r.off, none⟩) r.xs.length r.cap, .int .i64 r.place])] w fun e w' => e = .returned (.tuple #[]) ∧
      ∃ v', HeapAt w' base p v' (l ++ [r]) ∧ Kept (mine p v) w w' ∧ (v'.ownBlock = v.ownBlock ∨ ∀ b, v'.ownBlock = some b → w.heap.size ≤ b) := by
  obtain ⟨i0, hi0, hz0, hz1, hz2⟩ := info_parts inf58
  have hc := h.cell
  have hlt := World.block_lt_of_cell? _ _ hc
  simp only at hlt
  have hfz := h.fz
  have hrl := World.block_lt_of_cell? _ _ hr.hd.1
  simp only at hrl
  have hf : ∃ ao cap, v = .slice ao l.length cap := by
    rcases row_form h.own with ⟨rfl, hn⟩ | ⟨g, cap, rfl, hc, _, _, _⟩
    · exact ⟨none, 0, by rw [hn]⟩
    · exact ⟨_, _, rfl⟩
  obtain ⟨ao, cap, rfl⟩ := hf
  have H := Lib.hid h; have O := Lib.hid h.own; have R := Lib.hid hr; have RV := Lib.hid hrv
  have a1 : ¬ (Value.slice ao l.length cap).ownBlock = some p := h.np
  clear h hr hrv
  have hta := assert58
  go_enter Try.func69, Try.ntmps69
  go_region_law
    ((refine step_app (by rfl) _ _ 40 (by rfl) base 58 i0 _ 2 32 Try.underlying40 hi0 hz0 hz1 hz2 (by rfl) (by decide) _ l.length _ (by rfl) (O.out.alloc _) ⟨w.heap.size, 0, none⟩ 1 1 [.slice (some ⟨r.blk, r.off, none⟩) r.xs.length r.cap, .int .i64 r.place] (by rfl) (by rfl) ?_ ?_ ?_ ?_ ?_ ?_; (exact World.news_of_block (heap_alloc_new w _)); (intro u hu; simp at hu; rcases hu with rfl | rfl <;> rfl); (unfold maxLen; omega); omega; (simp; omega); intro ao' cap' w2 hown2 hgr hat; (have KG := grown_kept hgr); (have s0 := KG.cell (a := ⟨p, 0, none⟩) (v := .slice ao l.length cap) (by simp [go_sem, hc, hlt]) a1); (have sf := KG.frozen (a := ⟨p, 0, none⟩) (by simp [go_sem, hfz, hlt]) (by simp; omega) a1)))
  all_goals go_wp2
  all_goals go_end0
  all_goals
    have k1 : Kept (fun k => (Value.slice ao l.length cap).ownBlock = some k) w w2 := ((Kept.refl (fun _ => False) w).alloc (Obj.cells #[Value.slice (some ⟨r.blk, r.off, none⟩) r.xs.length r.cap, Value.int .i64 r.place] 58)).drew.trans KG (fun _ _ f => f.elim) (fun _ _ h => h)
    have hat2 : (Value.slice ao' (l.length + 1) cap').ownBlock = (Value.slice ao l.length cap).ownBlock ∨ ∀ b, (Value.slice ao' (l.length + 1) cap').ownBlock = some b → w.heap.size ≤ b := by
      rcases hat with e | e
      · exact .inl e
      · right; intro b hb; rw [hb] at e; have := Option.some.inj e; simp at this; omega
    obtain ⟨q1, q2⟩ := H.out.new (l' := l ++ [r]) (v' := .slice ao' (l.length + 1) cap') k1 (by
      have e1 : cellsH (l ++ [r]) = cellsH l ++ [.slice (some ⟨r.blk, r.off, none⟩) r.xs.length r.cap, .int .i64 r.place] := by rw [cellsH_append]; rfl
      rw [e1, List.length_append]
      exact hown2) hat2 (fun x hx => by
      rcases List.mem_append.1 hx with hx | hx
      · exact ⟨H.out.good x hx, H.out.nr x hx⟩
      · rw [List.mem_singleton.1 hx]; exact ⟨R.out, hrp, RV.out⟩) (by simp; omega)
    exact ⟨rfl, _, q1, q2, hat2⟩

theorem inf40 : Try.prog.underlying 40 = some (.slice 58) := Try.underlying40

set_option maxHeartbeats 2000000 in
theorem rows_pop {w : World} {base p : Nat} {v : Value} {l : List Rw} (h : HeapAt w base p v l) (hl : 0 < l.length) :
    Calls Try.prog 68 #[.pointer (some ⟨p, 0, none⟩)] w fun e w' => e = .returned (.iface 58 (.agg #[.slice (some ⟨(nth l (l.length - 1)).blk, (nth l (l.length - 1)).off, none⟩) (nth l (l.length - 1)).xs.length (nth l (l.length - 1)).cap, .int .i64 (nth l (l.length - 1)).place])) ∧
      ∃ v', HeapAt w' base p v' (l.take (l.length - 1)) ∧ Kept (mine p v) w w' ∧ v'.ownBlock = v.ownBlock := by
  obtain ⟨g, cap, rfl, hcap, hbg, hgl⟩ := h.form hl
  have hc := h.cell
  have hlt := World.block_lt_of_cell? _ _ hc
  simp only at hlt
  have hfz := h.fz
  obtain ⟨n, hn⟩ : ∃ n, l.length - 1 = n := ⟨_, rfl⟩
  have hn1 : l.length = n + 1 := by omega
  obtain ⟨a0, a1⟩ := h.rowAt (i := n) (by omega)
  rw [hn]
  obtain ⟨r, hr⟩ : ∃ r, nth l n = r := ⟨_, rfl⟩
  rw [hr] at a0 a1 ⊢
  have few := h.few
  have e1 : IntKind.i64.wrap ((l.length : Int) - 1) = (n : Int) := by rw [hn1]; simp; exact IntWalk.i64_in _ (by omega)
  have i1 : (0 : Int) ≤ (n : Int) := by omega
  have i2 : (n : Int) < (l.length : Int) := by omega
  have i3 : (n : Int) ≤ (cap : Int) := by omega
  have H := Lib.hid h; have N := Lib.hid hn; have N1 := Lib.hid hn1; have R := Lib.hid hr
  clear h hn hn1 hr
  go_enter Try.func68, Try.ntmps68
  go_wp2
  go_ret
  have el : l = l.take n ++ [r] := by
    have h3 : l.take (n + 1) = l := List.take_of_length_le (by have := N1.out; omega)
    rw [List.take_add_one, nth_get l (by have := N1.out; omega), R.out] at h3
    simpa using h3.symm
  have lt : (l.take n).length = n := by rw [List.length_take]; have := N1.out; omega
  have own : w.ownsRow base 58 2 (.slice (some ⟨g, 0, none⟩) (n + 1) cap) (n + 1) (cellsH (l.take n) ++ [.slice (some ⟨r.blk, r.off, none⟩) r.xs.length r.cap, .int .i64 r.place]) := by
    have h1 := H.out.own
    have e2 : cellsH l = cellsH (l.take n) ++ [.slice (some ⟨r.blk, r.off, none⟩) r.xs.length r.cap, .int .i64 r.place] := by
      conv => lhs; rw [el]
      rw [cellsH_append]; rfl
    rw [e2, N1.out] at h1
    exact h1
  have own2 := ownsRow_pop (by rw [cellsH_length, lt]) own
  obtain ⟨q1, q2⟩ := H.out.new (w2 := w) (l' := l.take n) (v' := .slice (some ⟨g, 0, none⟩) n cap) (Kept.refl _ w) (by rw [lt]; exact own2) (.inl rfl) (fun x hx => ⟨H.out.good x (List.mem_of_mem_take hx), H.out.nr x (List.mem_of_mem_take hx)⟩) (by omega)
  exact ⟨rfl, .slice (some ⟨g, 0, none⟩) n cap, q1.kept ((Kept.refl _ _).alloc _), q2.alloc _, rfl⟩
end Go.Proofs.Ytfhpjopdndnmgaa
