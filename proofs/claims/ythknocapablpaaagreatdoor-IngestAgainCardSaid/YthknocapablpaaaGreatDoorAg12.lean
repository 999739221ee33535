/- A part of the proof. -/
import Derived.Test.YthknocapablpaaaGreatDoorProg
import Derived.LoopN
import Derived.Laws.BytesArg
import Derived.Maps.OwnOps
import Derived.Lib.ItoaNum
import Derived.Test.YthknocapablpaaaGreatDoorAg11
import Derived.Test.YthknocapablpaaaGreatDoorAg6
import Derived.Test.YthknocapablpaaaGreatDoorAg9
import Derived.Test.YthknocapablpaaaGreatDoorAg10

/- merges.Newest, walked: of each key the first one. -/
namespace Go.Proofs.YthknocapablpaaaGreatDoor.Mg
set_option maxRecDepth 100000
open Go.RowKit
attribute [local go_sem] Oper.semAt_some

/-- Does a cell behind those that are there stay? -/
def stays (out : List Cel) (x : Cel) : Bool := decide (out.length = 0) || !sEq (nth out (out.length - 1)).k x.k
def addF (out : List Cel) (x : Cel) : List Cel := if stays out x = true then out ++ [x] else out
/-- Of each key the first one. -/
def firstF (pre : List Cel) : List Cel := pre.foldl addF []
theorem firstF_snoc (pre : List Cel) (x : Cel) : firstF (pre ++ [x]) = addF (firstF pre) x := by unfold firstF; rw [List.foldl_append]; rfl
theorem firstF_length (pre : List Cel) : (firstF pre).length ≤ pre.length := by
 have : ∀ (l out : List Cel), (l.foldl addF out).length ≤ out.length + l.length := by
  intro l
  induction l with
  | nil => intro out; simp
  | cons x t ih =>
   intro out
   rw [List.foldl_cons]
   have h1 := ih (addF out x)
   have h2 : (addF out x).length ≤ out.length + 1 := by unfold addF; split <;> simp
   simp only [List.length_cons]; omega
 have := this pre []
 simpa [firstF] using this

theorem stays_no {out : List Cel} {x y : Cel} {j : Nat} (hj : out.length = j + 1) (hy : nth out j = y) (he : (y.k.toList == x.k.toList) = true) : stays out x = false := by
 unfold stays sEq
 rw [hj, Nat.add_sub_cancel, hy, he]
 simp
theorem stays_yes {out : List Cel} {x y : Cel} {j : Nat} (hj : out.length = j + 1) (hy : nth out j = y) (he : (y.k.toList == x.k.toList) = false) : stays out x = true := by
 unfold stays sEq
 rw [hj, Nat.add_sub_cancel, hy, he]
 simp

set_option maxRecDepth 100000 in
set_option maxHeartbeats 4000000 in
theorem newest_any (w : World) (v0 : Value) (L : List (List Cel)) (h : ReadsR w v0 L) (hL : L.length ≤ 50) (hl : ∀ R ∈ L, R.length ≤ 1000) (ht : total L ≤ 1000) :
  Calls Tryz.prog 133 #[v0] w fun e w' => Kept (fun _ => False) w w' ∧
   ((L.all sortedB = false ∧ e = .returned (.tuple #[.slice none 0 0, .int .i64 2])) ∨
    (L.all sortedB = true ∧ ∃ u, e = .returned (.tuple #[u, .int .i64 0]) ∧ w'.ownsRow w.heap.size 132 3 u (firstF (mergeL L)).length (cellsC (firstF (mergeL L))))) := by
 have HN := Lib.hid (new_any w v0 L h hL hl)
 clear h hl
 refine (callsIn_wide (n := 5)).1 ?_
 refine callsIn_of_wp_marks Tryz.func133 rfl trivial ?_ rfl
 simp only [Tryz.ntmps133, List.size_toArray, List.length_cons, List.length_nil, Nat.reduceAdd, Nat.reduceSub, Array.replicate_succ, Array.replicate_zero, List.push_toArray, List.append_toArray, List.nil_append, List.cons_append]
 gi_wp2_with fail
 refine ⟨trivial, (callsIn_wide.2 HN.out).mono ?_⟩
 rintro e w1 ⟨K1, ⟨ha, rfl⟩ | ⟨ha, p, v, l, rfl, hIt, hperm⟩⟩
 ·have KK1 := Lib.hid K1; have HA := Lib.hid ha; clear K1 ha
  gi_wp2
  refine ⟨_, by simp [results, Tryz.results133, go_sem]; try rfl, ?_⟩
  exact ⟨KK1.out, .inl ⟨HA.out, rfl⟩⟩
 ·have e1 : drainL (sumL l) l = mergeL L := by
   rw [total_perm l L hperm]
   exact drain_merge (total L) l L hIt.hp (fun r hr => (hIt.heap.good r hr).ne) hperm
  have e2 : sumL l ≤ 1000 := by rw [total_perm l L hperm]; exact ht
  have KK1 := Lib.hid K1; have HA := Lib.hid ha; have IT := Lib.hid hIt; have E1 := Lib.hid e1
  clear K1 ha hIt hperm e1
  have ge1 := KK1.out.size
  gi_wp2_with (refine ⟨trivial, ?_⟩; gi_at_call 215; refine (callsIn_wide.2 (each_new p _)).mono ?_; rintro e w2 ⟨rfl, rfl⟩)
  obtain ⟨W0, hW0⟩ : ∃ W0, (w1.alloc (.cells #[.slice none 0 0] 65)).alloc (.cells #[.pointer (some ⟨p, 0, none⟩)] 314) = W0 := ⟨_, rfl⟩
  have hs1 : (w1.alloc (.cells #[.slice none 0 0] 65)).heap.size = w1.heap.size + 1 := by simp
  have k0 : Kept (fun _ => False) w1 W0 := by rw [← hW0]; exact ((Kept.refl _ w1).alloc _).alloc _
  have hs0 : W0.heap.size = w1.heap.size + 2 := by rw [← hW0]; simp
  have hc0 : W0.cell? ⟨w1.heap.size, 0, none⟩ = some (.slice none 0 0) := by rw [← hW0]; simp [go_sem]
  have hf0 : W0.frozen? ⟨w1.heap.size, 0, none⟩ = false := by rw [← hW0]; simp [go_sem]
  have hb0 : W0.cell? ⟨w1.heap.size + 1, 0, none⟩ = some (.pointer (some ⟨p, 0, none⟩)) := by rw [← hW0]; simp [go_sem]
  try simp only [hs1]
  rw [hW0]
  clear hW0 hs1
  refine range_each (bx := w1.heap.size + 1) (base := w.heap.size) (p := p) (v := v) (l := l) (by omega) rfl rfl (boxI_mine w.heap.size w1.heap.size firstF) (T := fun b => b = w1.heap.size)
   ⟨.slice none 0 0, fun b => by simp [Value.ownBlock], hc0, hf0, World.ownsRow_nil _ _ _ _, by simp [Value.ownBlock], by omega⟩ (IT.out.kept k0) (by omega) hb0 (by omega) (fun hb => by have := IT.out.own_lt _ hb; omega) (fun b hb e => by have := IT.out.own_lt b hb; omega)
   (fun x b => { tmps := #[v0, undef, .slice none 0 0, .int .i64 0, .pointer (some ⟨p, 0, none⟩), .int .i64 0, .pointer (some ⟨w1.heap.size, 0, none⟩), .pointer (some ⟨b, 0, none⟩), undef,
    .tuple #[.pointer (some ⟨p, 0, none⟩), .int .i64 0], v0, .tuple #[.pointer (some ⟨p, 0, none⟩), .int .i64 0], .pointer (some ⟨p, 0, none⟩), .int .i64 0, .int .i64 0, .bool false, undef, .pointer (some ⟨p, 0, none⟩), .func (.func 300) #[] #[.pointer (some ⟨w1.heap.size + 1, 0, none⟩)],
    .agg #[.string x.k, .int .i64 x.s, .string x.v], undef, undef, undef, undef, undef, undef, undef, undef, undef, undef, undef, undef, undef, undef, undef, undef, undef, undef, undef, undef], defers := [] }) ?assign ?body ?done
  case assign =>
   intro k x W K hK
   unfold Cel.val
   gi_wp2
   exact hK
  case body =>
   rintro k T pre x W b ⟨u, hT, h1, h2, h3, h4, h5⟩ hlen ⟨c0, c1, c2, _⟩ hTb
   obtain ⟨i0, hi, hz0, hz1, hz2⟩ := info_parts inf36
   obtain ⟨out, hout⟩ : ∃ o, firstF pre = o := ⟨_, rfl⟩
   have hol : out.length ≤ pre.length := by rw [← hout]; exact firstF_length pre
   have hfs : firstF (pre ++ [x]) = addF out x := by rw [firstF_snoc, hout]
   rw [hout] at h3
   have hBl := World.block_lt_of_cell? _ _ h1
   simp only at hBl
   have hbl := World.block_lt_of_cell? _ _ c0
   simp only at hbl
   have hsh2 : ∃ ao cap, u = .slice ao out.length cap := by
    rcases row_form h3 with ⟨rfl, hn⟩ | ⟨g, cap, rfl, _⟩
    ·exact ⟨none, 0, by rw [hn]⟩
    ·exact ⟨_, _, rfl⟩
   obtain ⟨ao, cap, rfl⟩ := hsh2
   have OUT := Lib.hid hout; have HR := Lib.hid h3; have HT := Lib.hid hT; have FS := Lib.hid hfs
   have a1 : ¬ (Value.slice ao out.length cap).ownBlock = some w1.heap.size := h4
   have hlp : out.length + 1 ≤ 1000 := by omega
   have H5 := Lib.hid h5
   have hI0 : BoxI w.heap.size w1.heap.size firstF T pre W := ⟨_, HT.out, h1, h2, by rw [hout]; exact HR.out, h4, h5⟩
   have I0 := Lib.hid hI0
   -- the cell that is added
   have hadd : stays out x = true → ∀ ao' cap' w9, w9.ownsRow w.heap.size 132 3 (.slice ao' (out.length + 1) cap') (out.length + 1) (cellsC out ++ [.string x.k, .int .i64 x.s, .string x.v]) → Kept (fun k => (Value.slice ao out.length cap).ownBlock = some k) W w9 →
     ((Value.slice ao' (out.length + 1) cap').ownBlock = (Value.slice ao out.length cap).ownBlock ∨ ∀ b, (Value.slice ao' (out.length + 1) cap').ownBlock = some b → W.heap.size ≤ b) →
     ∃ T', BoxI w.heap.size w1.heap.size firstF T' (pre ++ [x]) (w9.setCell ⟨w1.heap.size, 0, none⟩ (.slice ao' (out.length + 1) cap')) ∧ Kept T W (w9.setCell ⟨w1.heap.size, 0, none⟩ (.slice ao' (out.length + 1) cap')) ∧ ∀ b, b < W.heap.size → T' b → T b := by
    intro hst ao' cap' w9 own9 k9 at9
    have s0 := k9.cell h1 a1
    have sf := k9.frozen h2 hBl a1
    have hne : (Value.slice ao' (out.length + 1) cap').ownBlock ≠ some w1.heap.size := fun e => by
     rcases at9 with h | h
     ·rw [h] at e; exact a1 e
     ·have := h _ e; omega
    have e1 : firstF (pre ++ [x]) = out ++ [x] := by rw [FS.out]; unfold addF; rw [if_pos hst]
    refine ⟨fun b => b = w1.heap.size ∨ (Value.slice ao' (out.length + 1) cap').ownBlock = some b, ⟨_, fun b => Iff.rfl, World.cell?_setCell_same' _ _ _ (by rw [s0]; rfl), by rw [World.frozen?_setCell]; exact sf, ?_, hne, by simp [World.setCell]; exact Nat.le_trans H5.out k9.size⟩, ?_, ?_⟩
    ·refine ownsRow_setCell_other (v := .slice ao' (out.length + 1) cap') (a := ⟨w1.heap.size, 0, none⟩) ?_ hne _
     have e2 : cellsC (out ++ [x]) = cellsC out ++ [.string x.k, .int .i64 x.s, .string x.v] := by rw [cellsC_append]; rfl
     rw [e1, e2, List.length_append]
     exact own9
    ·exact Kept.setAt (fun _ => (HT.out _).2 (.inl rfl)) (k9.mono (fun b _ hb => (HT.out b).2 (.inr hb)))
    ·rintro b hb (rfl | h)
     ·exact (HT.out _).2 (.inl rfl)
     ·rcases at9 with q | q
      ·exact (HT.out b).2 (.inr (q ▸ h))
      ·have := q b h; omega
   have ADD := Lib.hid hadd
   clear h3 hT hfs h4 h5 hI0 hadd IT hc0 hf0 hb0 hout
   by_cases h0 : out.length = 0
   ·have hst : stays out x = true := by unfold stays; simp [h0]
    have ST := Lib.hid hst; clear hst
    have hz : (out.length : Int) = 0 := by omega
    have LZ := Lib.hid h0; clear h0
    gi_wp2
    refine round_region (S := (fun _ => True)) k _ (by kernel_rfl) (by kernel_rfl) (by rintro ⟨_, _, h⟩; exact h) ?_ (fun hHeld => ?_)
    ·trivial
    refine tW 0 opAt0 hHeld ?_
    (try simp only [Act.put]); try simp only [z2, List.set]
    refine tW 1 opAt1 hHeld ?_
    (try simp only [Act.put]); try simp only [z2, List.set]
    refine tW 2 opAt2 hHeld ?_
    (try simp only [Act.put]); try simp only [z2, List.set]
    refine tU 3 opAt3 hHeld ?_
    (try simp only [Act.put]); try simp only [z2, List.set]
    refine tU 4 opAt4 hHeld ?_
    (try simp only [Act.put]); try simp only [z2, List.set]
    refine tU 5 opAt5 hHeld ?_
    (try simp only [Act.put]); try simp only [z2, List.set]
    refine tU 6 opAt6 hHeld ?_
    (try simp only [Act.put]); try simp only [z2, List.set]
    refine tU 7 opAt7 hHeld ?_
    (try simp only [Act.put]); try simp only [z2, List.set]
    refine tU 8 opAt8 hHeld ?_
    (try simp only [Act.put]); try simp only [z2, List.set]
    refine tU 9 opAt9 hHeld ?_
    (try simp only [Act.put]); try simp only [z2, List.set]
    refine tU 10 opAt10 hHeld ?_
    (try simp only [Act.put]); try simp only [z2, List.set]
    refine tW 11 opAt11 hHeld ?_
    (try simp only [Act.put]); try simp only [z2, List.set]
    refine wpAnyH_done (by kernel_rfl) ?_ _
    gi_wp2_with (gi_at_builtin; refine in_append _ rfl _ _ 65 rfl w.heap.size 132 i0 _ 3 40 Tryz.underlying65 hi hz0 hz1 hz2 rfl (by decide) _ _ _ rfl (World.ownsRow.drew (World.ownsRow.alloc HR.out _)) ⟨W.heap.size, 0, none⟩ 1 1 [.string x.k, .int .i64 x.s, .string x.v] rfl ?q1 ?q2 ?q3 ?q4 ?q5 ?q6 ?_)
    case q1 => rfl
    case q2 => exact World.news_of_block (w := (W.alloc (Obj.cells #[Value.string x.k, Value.int .i64 x.s, Value.string x.v] 132)).drew) (heap_alloc_new W _)
    case q3 => intro u hu; simp at hu; rcases hu with rfl | rfl | rfl <;> rfl
    case q4 => unfold maxLen; omega
    case q5 => omega
    case q6 => have := H5.out; show w.heap.size ≤ (W.alloc _).heap.size; simp; omega
    intro v' w9 hown' hgrow hat
    obtain ⟨g', cap', rfl⟩ : ∃ g cap, v' = .slice (some ⟨g, 0, none⟩) (out.length + 1) cap := by
     rcases row_form hown' with ⟨_, h⟩ | ⟨g, c, h, _⟩
     ·omega
     ·exact ⟨g, c, h⟩
    have KG := grown_kept hgrow
    have s0 := KG.cell (a := ⟨w1.heap.size, 0, none⟩) (v := .slice ao out.length cap) (by simp [go_sem, h1, hBl]) a1
    have sf := KG.frozen (a := ⟨w1.heap.size, 0, none⟩) (by simp [go_sem, h2, hBl]) (by simp; omega) a1
    have k9 : Kept (fun k => (Value.slice ao out.length cap).ownBlock = some k) W w9 := (((Kept.refl (fun _ => False) W).alloc (.cells #[.string x.k, .int .i64 x.s, .string x.v] 132)).drew).trans KG (fun _ _ f => f.elim) (fun _ _ h => h)
    have at9 : (Value.slice (some ⟨g', 0, none⟩) (out.length + 1) cap').ownBlock = (Value.slice ao out.length cap).ownBlock ∨ ∀ b, (Value.slice (some ⟨g', 0, none⟩) (out.length + 1) cap').ownBlock = some b → W.heap.size ≤ b := by
     rcases hat with e | e
     ·exact .inl e
     ·right; intro b hb
      rw [hb] at e
      have h := Option.some.inj e
      have h2 : (W.alloc (Obj.cells #[Value.string x.k, Value.int .i64 x.s, Value.string x.v] 132)).heap.size = W.heap.size + 1 := by simp
      have h3 : (W.alloc (Obj.cells #[Value.string x.k, Value.int .i64 x.s, Value.string x.v] 132)).drew.heap.size = (W.alloc (Obj.cells #[Value.string x.k, Value.int .i64 x.s, Value.string x.v] 132)).heap.size := rfl
      omega
    have FIN := Lib.hid (ADD.out ST.out _ _ w9 hown' k9 at9)
    clear hown' hgrow hat KG k9 at9
    gi_wp2
    exact FIN.out
   ·obtain ⟨j, hj⟩ : ∃ j, out.length = j + 1 := ⟨out.length - 1, by omega⟩
    obtain ⟨g, hg, hcell⟩ : ∃ g, ao = some ⟨g, 0, none⟩ ∧ ∀ i u, (cellsC out)[i]? = some u → W.cell? ⟨g, i, none⟩ = some u := by
     rcases row_form HR.out with ⟨_, hn⟩ | ⟨g, cap, he, _, _, _, h6⟩
     ·omega
     ·simp only [Value.slice.injEq] at he
      exact ⟨g, he.1, h6⟩
    subst hg
    obtain ⟨y, hy⟩ : ∃ y, nth out j = y := ⟨_, rfl⟩
    obtain ⟨q0, _, _⟩ := cellsC_get out j y (by rw [← hy]; exact nth_get out (by omega))
    have y0 := hcell _ _ q0
    have Y0 := Lib.hid y0
    clear hcell q0
    have hz : (out.length : Int) - 1 = (j : Int) := by omega
    have i1 : ¬ (j : Int) < 0 := by omega
    have i2 : (0 : Int) ≤ (j : Int) := by omega
    have i3 : (j : Int) < (out.length : Int) := by omega
    have J := Lib.hid hj; have Y := Lib.hid hy; have H0 := Lib.hid h0
    clear hj hy h0
    have hor : (y.k.toList == x.k.toList) = true ∨ (y.k.toList == x.k.toList) = false := by cases (y.k.toList == x.k.toList) <;> simp
    rcases hor with he | he
    ·
     have ST := Lib.hid (stays_no J.out Y.out he)
     have HE := Lib.hid he; clear he y0
     gi_wp2
     have he := HE.out; have y0 := Y0.out
     refine round_region (S := (fun w' => w'.cell? ⟨w1.heap.size, 0, none⟩ = some (.slice (some ⟨g, 0, none⟩) out.length cap) ∧ w'.cell? ⟨g, j * 3, none⟩ = some (.string y.k) ∧ w'.cell? ⟨b, 0, none⟩ = some (.string x.k))) k _ (by kernel_rfl) (by kernel_rfl) (by rintro ⟨_, _, h⟩; exact h) ?_ (fun hHeld => ?_)
     ·exact ⟨h1, y0, c0⟩
     refine tW 0 opAt0 hHeld ?_
     (try simp only [Act.put]); try simp only [z2, List.set]
     refine tW 1 opAt1 hHeld ?_
     (try simp only [Act.put]); try simp only [z2, List.set]
     refine tW 2 opAt2 hHeld ?_
     (try simp only [Act.put]); try simp only [z2, List.set]
     refine tW 3 opAt3 hHeld ?_
     (try simp only [Act.put]); try simp only [z2, List.set]
     refine tW 4 opAt4 hHeld ?_
     (try simp only [Act.put]); try simp only [z2, List.set]
     refine tW 5 opAt5 hHeld ?_
     (try simp only [Act.put]); try simp only [z2, List.set]
     refine tW 6 opAt6 hHeld ?_
     (try simp only [Act.put]); try simp only [z2, List.set]
     refine tW 7 opAt7 hHeld ?_
     (try simp only [Act.put]); try simp only [z2, List.set]
     refine tW 8 opAt8 hHeld ?_
     (try simp only [Act.put]); try simp only [z2, List.set]
     refine tW 9 opAt9 hHeld ?_
     (try simp only [Act.put]); try simp only [z2, List.set]
     refine tW 10 opAt10 hHeld ?_
     (try simp only [Act.put]); try simp only [z2, List.set]
     refine tW 11 opAt11 hHeld ?_
     (try simp only [Act.put]); try simp only [z2, List.set]
     refine wpAnyH_done (by kernel_rfl) ?_ _
     gi_wp2
     have e1 : firstF (pre ++ [x]) = firstF pre := by
      rw [FS.out]; unfold addF; rw [ST.out]
      have := I0.out
      simp only [Bool.false_eq_true, if_false]
      exact OUT.out.symm
     refine ⟨T, ?_, (Kept.refl _ W).drew, fun _ _ h => h⟩
     obtain ⟨u, t1, t2, t3, t4, t5, t6⟩ := I0.out
     exact ⟨u, t1, t2, t3, by rw [e1]; exact t4, t5, t6⟩
    ·
     have ST := Lib.hid (stays_yes J.out Y.out he)
     have HE := Lib.hid he; clear he y0
     gi_wp2
     have he := HE.out; have y0 := Y0.out
     refine round_region (S := (fun w' => w'.cell? ⟨w1.heap.size, 0, none⟩ = some (.slice (some ⟨g, 0, none⟩) out.length cap) ∧ w'.cell? ⟨g, j * 3, none⟩ = some (.string y.k) ∧ w'.cell? ⟨b, 0, none⟩ = some (.string x.k))) k _ (by kernel_rfl) (by kernel_rfl) (by rintro ⟨_, _, h⟩; exact h) ?_ (fun hHeld => ?_)
     ·exact ⟨h1, y0, c0⟩
     refine tW 0 opAt0 hHeld ?_
     (try simp only [Act.put]); try simp only [z2, List.set]
     refine tW 1 opAt1 hHeld ?_
     (try simp only [Act.put]); try simp only [z2, List.set]
     refine tW 2 opAt2 hHeld ?_
     (try simp only [Act.put]); try simp only [z2, List.set]
     refine tW 3 opAt3 hHeld ?_
     (try simp only [Act.put]); try simp only [z2, List.set]
     refine tW 4 opAt4 hHeld ?_
     (try simp only [Act.put]); try simp only [z2, List.set]
     refine tW 5 opAt5 hHeld ?_
     (try simp only [Act.put]); try simp only [z2, List.set]
     refine tW 6 opAt6 hHeld ?_
     (try simp only [Act.put]); try simp only [z2, List.set]
     refine tW 7 opAt7 hHeld ?_
     (try simp only [Act.put]); try simp only [z2, List.set]
     refine tW 8 opAt8 hHeld ?_
     (try simp only [Act.put]); try simp only [z2, List.set]
     refine tW 9 opAt9 hHeld ?_
     (try simp only [Act.put]); try simp only [z2, List.set]
     refine tW 10 opAt10 hHeld ?_
     (try simp only [Act.put]); try simp only [z2, List.set]
     refine tW 11 opAt11 hHeld ?_
     (try simp only [Act.put]); try simp only [z2, List.set]
     refine wpAnyH_done (by kernel_rfl) ?_ _
     gi_wp2_with (gi_at_builtin; refine in_append _ rfl _ _ 65 rfl w.heap.size 132 i0 _ 3 40 Tryz.underlying65 hi hz0 hz1 hz2 rfl (by decide) _ _ _ rfl (World.ownsRow.drew (World.ownsRow.alloc HR.out _)) ⟨W.heap.size, 0, none⟩ 1 1 [.string x.k, .int .i64 x.s, .string x.v] rfl ?q1 ?q2 ?q3 ?q4 ?q5 ?q6 ?_)
     case q1 => rfl
     case q2 => exact World.news_of_block (w := (W.alloc (Obj.cells #[Value.string x.k, Value.int .i64 x.s, Value.string x.v] 132)).drew) (heap_alloc_new W _)
     case q3 => intro u hu; simp at hu; rcases hu with rfl | rfl | rfl <;> rfl
     case q4 => unfold maxLen; omega
     case q5 => omega
     case q6 => have := H5.out; show w.heap.size ≤ (W.alloc _).heap.size; simp; omega
     intro v' w9 hown' hgrow hat
     obtain ⟨g', cap', rfl⟩ : ∃ g cap, v' = .slice (some ⟨g, 0, none⟩) (out.length + 1) cap := by
      rcases row_form hown' with ⟨_, h⟩ | ⟨g, c, h, _⟩
      ·omega
      ·exact ⟨g, c, h⟩
     have KG := grown_kept hgrow
     have s0 := KG.cell (a := ⟨w1.heap.size, 0, none⟩) (v := .slice (some ⟨g, 0, none⟩) out.length cap) (by simp [go_sem, h1, hBl]) a1
     have sf := KG.frozen (a := ⟨w1.heap.size, 0, none⟩) (by simp [go_sem, h2, hBl]) (by simp; omega) a1
     have k9 : Kept (fun k => (Value.slice (some ⟨g, 0, none⟩) out.length cap).ownBlock = some k) W w9 := (((Kept.refl (fun _ => False) W).alloc (.cells #[.string x.k, .int .i64 x.s, .string x.v] 132)).drew).trans KG (fun _ _ f => f.elim) (fun _ _ h => h)
     have at9 : (Value.slice (some ⟨g', 0, none⟩) (out.length + 1) cap').ownBlock = (Value.slice (some ⟨g, 0, none⟩) out.length cap).ownBlock ∨ ∀ b, (Value.slice (some ⟨g', 0, none⟩) (out.length + 1) cap').ownBlock = some b → W.heap.size ≤ b := by
      rcases hat with e | e
      ·exact .inl e
      ·right; intro b hb
       rw [hb] at e
       have h := Option.some.inj e
       have h2 : (W.alloc (Obj.cells #[Value.string x.k, Value.int .i64 x.s, Value.string x.v] 132)).heap.size = W.heap.size + 1 := by simp
       have h3 : (W.alloc (Obj.cells #[Value.string x.k, Value.int .i64 x.s, Value.string x.v] 132)).drew.heap.size = (W.alloc (Obj.cells #[Value.string x.k, Value.int .i64 x.s, Value.string x.v] 132)).heap.size := rfl
       omega
     have FIN := Lib.hid (ADD.out ST.out _ _ w9 hown' k9 at9)
     clear hown' hgrow hat KG k9 at9
     gi_wp2
     exact FIN.out
  case done =>
   rintro D T' W ⟨u, hT, h1, h2, h3, h4, h5⟩ hTD hk ht hD hDe
   gi_wp2
   refine ⟨by simp, .inl ⟨_, _, rfl, run_takeDeferred hDe, ?_⟩⟩
   refine ⟨_, by simp [results, Tryz.results133, go_sem]; try rfl, ?_⟩
   refine ⟨?_, .inr ⟨HA.out, u, rfl, ?_⟩⟩
   ·refine (KK1.out.trans (k0.trans hk (T := fun b => w.heap.size ≤ b) (fun _ _ f => f.elim) (fun b hb h => ?_)) (fun _ _ f => f) (fun b hb h => by omega)).trans (kept_put W D _) (fun _ _ h => h) (fun b hb e => by omega)
    rcases h with h | h
    ·omega
    ·exact IT.out.ownI_ge b h
   ·rw [E1.out] at h3
    exact own_keptS h3 (kept_put W D _) (fun b hb e => hTD ((hT D).2 (.inr (e ▸ hb))))
end Go.Proofs.YthknocapablpaaaGreatDoor.Mg

/- ints.Big of any number: a string of at most eight bytes. -/
namespace Go.Proofs.YthknocapablpaaaGreatDoor
set_option maxRecDepth 100000
open Go.RowKit

def StrB (b : Nat) (e : Ending) : Prop := ∃ s : ByteArray, e = .returned (.string s) ∧ s.size ≤ b

theorem conv8 (w : World) (x0 x1 x2 x3 x4 x5 x6 x7 : Int) (t : TypeId) :
  (convert 48 9 (.slice (some ⟨w.heap.size, 0, none⟩) 8 8)).run Tryz.prog (w.alloc (.cells #[.int .u8 x0, .int .u8 x1, .int .u8 x2, .int .u8 x3, .int .u8 x4, .int .u8 x5, .int .u8 x6, .int .u8 x7] t)) = .ok (.string (strOfNums [x0, x1, x2, x3, x4, x5, x6, x7])) (w.alloc (.cells #[.int .u8 x0, .int .u8 x1, .int .u8 x2, .int .u8 x3, .int .u8 x4, .int .u8 x5, .int .u8 x6, .int .u8 x7] t)) :=
 run_convert_bytes_arg _ 48 5 Tryz.underlying48 Tryz.underlying5 _ 0 8 8 [x0, x1, x2, x3, x4, x5, x6, x7] rfl (fun i hi => by
  rw [Nat.zero_add]
  match i, hi with
  | 0, _ => exact World.cell?_alloc_at _ _ _ _ rfl
  | 1, _ => exact World.cell?_alloc_at _ _ _ _ rfl
  | 2, _ => exact World.cell?_alloc_at _ _ _ _ rfl
  | 3, _ => exact World.cell?_alloc_at _ _ _ _ rfl
  | 4, _ => exact World.cell?_alloc_at _ _ _ _ rfl
  | 5, _ => exact World.cell?_alloc_at _ _ _ _ rfl
  | 6, _ => exact World.cell?_alloc_at _ _ _ _ rfl
  | 7, _ => exact World.cell?_alloc_at _ _ _ _ rfl) 9 Tryz.underlying9

end Go.Proofs.YthknocapablpaaaGreatDoor

/- ints.Big of any number, by its bytes; keys.big of two and of three. -/
namespace Go.Proofs.YthknocapablpaaaGreatDoor
set_option maxRecDepth 100000
open Go.RowKit

def bigL (n : Int) : List Int := [n / 72057594037927936 % 256, n / 281474976710656 % 256, n / 1099511627776 % 256, n / 4294967296 % 256, n / 16777216 % 256, n / 65536 % 256, n / 256 % 256, n % 256]
def bigF (n : Int) : ByteArray := if n < 0 then .empty else strOfNums (bigL n)
theorem bigF_size (n : Int) : (bigF n).size ≤ 8 := by
 unfold bigF
 split
 ·exact Nat.zero_le _
 ·rw [strOfNums_size]; exact Nat.le_refl 8

set_option maxHeartbeats 1000000 in
set_option maxRecDepth 100000 in
theorem big_val (n : Int) (w : World) (hm : n ≤ 9223372036854775807) : Calls Tryz.prog 219 #[.int .i64 n] w fun e w' => e = .returned (.string (bigF n)) ∧ Kept (fun _ => False) w w' := by
 unfold bigF
 by_cases h : n < 0
 ·rw [if_pos h]
  go_enter Tryz.func219, Tryz.ntmps219
  go_wp2
  go_ret
  exact ⟨rfl, Kept.refl _ _⟩
 ·rw [if_neg h]
  go_enter Tryz.func219, Tryz.ntmps219
  go_wp2
  refine wp_loop_rounds 9 ?_
  iterate 9 (rw [rounds_succ]; go_wp2)
  rw [conv8]
  go_wp2
  go_ret
  refine ⟨?_, (Kept.refl _ _).alloc _⟩
  have e : n / 72057594037927936 % 256 = n / 72057594037927936 := by omega
  simp [bigL, e]

set_option maxHeartbeats 1000000 in
set_option maxRecDepth 100000 in
theorem bigs2 {a b : Int} {g o cap : Nat} {w : World} (ha : a ≤ 9223372036854775807) (hb : b ≤ 9223372036854775807) (c0 : w.cell? ⟨g, o, none⟩ = some (.int .i64 a)) (c1 : w.cell? ⟨g, o + 1, none⟩ = some (.int .i64 b)) :
  Calls Tryz.prog 137 #[.slice (some ⟨g, o, none⟩) 2 cap] w fun e w' => e = .returned (.string (bigF a ++ bigF b)) ∧ Kept (fun _ => False) w w' := by
 have P0 := Lib.hid (fun w => big_val a w ha)
 have P1 := Lib.hid (fun w => big_val b w hb)
 have tt : ∀ {a b c : World}, Kept (fun _ => False) a b → Kept (fun _ => False) b c → Kept (fun _ => False) a c := fun h k => h.trans k (fun _ _ h => h) (fun _ _ h => h)
 have z0 := bigF_size a
 have z1 := bigF_size b
 obtain ⟨A, hA⟩ : ∃ A, bigF a = A := ⟨_, rfl⟩
 obtain ⟨B, hB⟩ : ∃ B, bigF b = B := ⟨_, rfl⟩
 rw [hA] at P0 z0 ⊢
 rw [hB] at P1 z1 ⊢
 clear hA hB
 go_enter Tryz.func137, Tryz.ntmps137
 go_wp2
 refine wp_loop_rounds 3 ?_
 rw [rounds_succ]
 go_wp2_with (go_at_call 219; refine (P0.out _).mono ?_; rintro e w1 ⟨rfl, k1⟩; have c1 := k1.cell c1 (fun f => f); have K1 := Lib.hid k1; clear k1)
 rw [rounds_succ]
 go_wp2_with (go_at_call 219; refine (P1.out _).mono ?_; rintro e w2 ⟨rfl, k2⟩; have K2 := Lib.hid (tt K1.out k2); clear k2)
 rw [rounds_succ]
 go_wp2
 go_ret
 have e0 : ({ data := #[] } : ByteArray) ++ A = A := ByteArray.empty_append
 exact ⟨by rw [← e0]; rfl, K2.out⟩
set_option maxHeartbeats 1000000 in
set_option maxRecDepth 100000 in
theorem bigs3 {a b c : Int} {g o cap : Nat} {w : World} (ha : a ≤ 9223372036854775807) (hb : b ≤ 9223372036854775807) (hc : c ≤ 9223372036854775807) (c0 : w.cell? ⟨g, o, none⟩ = some (.int .i64 a)) (c1 : w.cell? ⟨g, o + 1, none⟩ = some (.int .i64 b)) (c2 : w.cell? ⟨g, o + 2, none⟩ = some (.int .i64 c)) :
  Calls Tryz.prog 137 #[.slice (some ⟨g, o, none⟩) 3 cap] w fun e w' => e = .returned (.string (bigF a ++ bigF b ++ bigF c)) ∧ Kept (fun _ => False) w w' := by
 have P0 := Lib.hid (fun w => big_val a w ha)
 have P1 := Lib.hid (fun w => big_val b w hb)
 have P2 := Lib.hid (fun w => big_val c w hc)
 have tt : ∀ {a b c : World}, Kept (fun _ => False) a b → Kept (fun _ => False) b c → Kept (fun _ => False) a c := fun h k => h.trans k (fun _ _ h => h) (fun _ _ h => h)
 have z0 := bigF_size a
 have z1 := bigF_size b
 have z2 := bigF_size c
 obtain ⟨A, hA⟩ : ∃ A, bigF a = A := ⟨_, rfl⟩
 obtain ⟨B, hB⟩ : ∃ B, bigF b = B := ⟨_, rfl⟩
 obtain ⟨D, hD⟩ : ∃ D, bigF c = D := ⟨_, rfl⟩
 rw [hA] at P0 z0 ⊢
 rw [hB] at P1 z1 ⊢
 rw [hD] at P2 z2 ⊢
 clear hA hB hD
 go_enter Tryz.func137, Tryz.ntmps137
 go_wp2
 refine wp_loop_rounds 4 ?_
 rw [rounds_succ]
 go_wp2_with (go_at_call 219; refine (P0.out _).mono ?_; rintro e w1 ⟨rfl, k1⟩; have c1 := k1.cell c1 (fun f => f); have c2 := k1.cell c2 (fun f => f); have K1 := Lib.hid k1; clear k1)
 rw [rounds_succ]
 go_wp2_with (go_at_call 219; refine (P1.out _).mono ?_; rintro e w2 ⟨rfl, k2⟩; have c2 := k2.cell c2 (fun f => f); have K2 := Lib.hid (tt K1.out k2); clear k2)
 rw [rounds_succ]
 go_wp2_with (go_at_call 219; refine (P2.out _).mono ?_; rintro e w3 ⟨rfl, k3⟩; have K3 := Lib.hid (tt K2.out k3); clear k3)
 rw [rounds_succ]
 go_wp2
 go_ret
 have e0 : ({ data := #[] } : ByteArray) ++ A = A := ByteArray.empty_append
 exact ⟨by rw [← e0]; rfl, K3.out⟩
end Go.Proofs.YthknocapablpaaaGreatDoor

/- keys.Of and keys.Index, by their bytes. -/
namespace Go.Proofs.YthknocapablpaaaGreatDoor
set_option maxRecDepth 100000
open Go.RowKit

set_option maxHeartbeats 1000000 in
set_option maxRecDepth 100000 in
theorem like_all (k tr id st : Int) (se ho : ByteArray) (w : World) : Calls Tryz.prog 223 #[.agg #[.int .u8 k, .int .i64 tr, .int .i64 id, .int .i64 st, .string se, .string ho]] w fun e w' => e = .returned (aggS ⟨tr, id, 0, se, ho, st, 0, .empty⟩) ∧ Kept (fun _ => False) w w' := by
 go_enter Tryz.func223, Tryz.ntmps223
 go_wp2
 refine bodyPost_ret (v := _) (by simp [results, Tryz.results223, go_sem]; try rfl) rfl ?_
 exact ⟨rfl, ((Kept.refl _ _).alloc _).alloc _⟩
theorem told_all (s : ByteArray) (ok : Bool) (w : World) : Calls Tryz.prog 249 #[.string s, .bool ok] w fun e w' => e = .returned (.tuple #[.string (match ok with | true => s | false => .empty), .int .i64 (errN ok)]) ∧ w' = w := by
 cases ok
 ·go_enter Tryz.func249, Tryz.ntmps249
  go_wp2
  go_ret2
  exact ⟨rfl, rfl⟩
 ·go_enter Tryz.func249, Tryz.ntmps249
  go_wp2
  go_ret2
  exact ⟨rfl, rfl⟩

def sS : ByteArray := ⟨#[115]⟩
def spS (tr id : Int) : Spn := ⟨tr, id, 0, sS, sS, 0, 0, .empty⟩
def ofB (tr id : Int) : Bool := decide (1 ≤ tr) && decide (tr ≤ 2147483647) && (decide (1 ≤ id) && decide (id ≤ 2147483647))
theorem nameS : nameB sS = true := by decide +kernel
theorem chk_spS (tr id : Int) : chkB (spS tr id) = ofB tr id := by
 unfold chkB okJ leastJ mostJ numJ spS ofB
 simp [nameS]
def keyF (tr id : Int) : ByteArray := sS ++ (bigF tr ++ bigF id)

set_option maxHeartbeats 2000000 in
set_option maxRecDepth 100000 in
theorem key_bad (tr id : Int) (w : World) (hB : ofB tr id = false) : Calls Tryz.prog 143 #[.agg #[.int .u8 115, .int .i64 tr, .int .i64 id, .int .i64 0, .string .empty, .string .empty]] w fun e w' => e = .returned (.tuple #[.string .empty, .bool false]) ∧ Kept (fun _ => False) w w' := by
 have tt : ∀ {a b c : World}, Kept (fun _ => False) a b → Kept (fun _ => False) b c → Kept (fun _ => False) a c := fun h k => h.trans k (fun _ _ h => h) (fun _ _ h => h)
 have C := Lib.hid (fun w => check_all (spS tr id) (by show 1 ≤ _; omega) (by show 1 ≤ _; omega) (by show 0 ≤ _; omega) w)
 rw [chk_spS, hB] at C
 have LK := Lib.hid (like_all 115 tr id 0 .empty .empty)
 unfold aggS spS at C
 unfold aggS at LK
 clear hB
 go_enter Tryz.func143, Tryz.ntmps143
 go_wp2_with fail
 refine (LK.out _).mono ?_
 rintro e w1 ⟨rfl, k1⟩
 have b0 := k1.cell (a := ⟨w.heap.size, 0, none⟩) (v := .int .u8 115) (by go_simp) (fun f => f)
 have b1 := k1.cell (a := ⟨w.heap.size, 1, none⟩) (v := .int .i64 tr) (by go_simp) (fun f => f)
 have b2 := k1.cell (a := ⟨w.heap.size, 2, none⟩) (v := .int .i64 id) (by go_simp) (fun f => f)
 have hnp : w.heap.size < w1.heap.size := by have := k1.size; simp at this; omega
 have K1 := Lib.hid (tt ((Kept.refl _ _).alloc _) k1)
 clear k1
 go_wp2
 have c0 : ∀ o, (w1.alloc o).cell? ⟨w.heap.size, 0, none⟩ = some (.int .u8 115) := fun o => ((Kept.refl (fun _ => False) w1).alloc o).cell b0 (fun f => f)
 go_region
 all_goals go_wp2_with fail
 refine (C.out _).mono ?_
 rintro e w2 ⟨rfl, k2⟩
 have K2 := Lib.hid (tt K1.out (tt ((Kept.refl _ _).alloc _).drew k2))
 go_wp2
 go_ret2
 exact ⟨rfl, K2.out⟩
set_option maxHeartbeats 2000000 in
set_option maxRecDepth 100000 in
theorem key_good (tr id : Int) (w : World) (ht : tr ≤ 9223372036854775807) (hi : id ≤ 9223372036854775807) (hB : ofB tr id = true) : Calls Tryz.prog 143 #[.agg #[.int .u8 115, .int .i64 tr, .int .i64 id, .int .i64 0, .string .empty, .string .empty]] w fun e w' => e = .returned (.tuple #[.string (keyF tr id), .bool true]) ∧ Kept (fun _ => False) w w' := by
 have z0 := bigF_size tr
 have z1 := bigF_size id
 unfold keyF
 have BG := Lib.hid (fun (w' : World) (g cap : Nat) => bigs2 (a := tr) (b := id) (g := g) (o := 0) (cap := cap) (w := w') ht hi)
 have zz : (bigF tr ++ bigF id).size ≤ 16 := by rw [ByteArray.size_append]; omega
 obtain ⟨BB, hBB⟩ : ∃ BB, bigF tr ++ bigF id = BB := ⟨_, rfl⟩
 rw [hBB] at BG zz ⊢
 clear hBB
 have tt : ∀ {a b c : World}, Kept (fun _ => False) a b → Kept (fun _ => False) b c → Kept (fun _ => False) a c := fun h k => h.trans k (fun _ _ h => h) (fun _ _ h => h)
 have C := Lib.hid (fun w => check_all (spS tr id) (by show 1 ≤ _; omega) (by show 1 ≤ _; omega) (by show 0 ≤ _; omega) w)
 rw [chk_spS, hB] at C
 have LK := Lib.hid (like_all 115 tr id 0 .empty .empty)
 unfold aggS spS at C
 unfold aggS at LK
 clear hB
 go_enter Tryz.func143, Tryz.ntmps143
 go_wp2_with fail
 refine (LK.out _).mono ?_
 rintro e w1 ⟨rfl, k1⟩
 have b0 := k1.cell (a := ⟨w.heap.size, 0, none⟩) (v := .int .u8 115) (by go_simp) (fun f => f)
 have b1 := k1.cell (a := ⟨w.heap.size, 1, none⟩) (v := .int .i64 tr) (by go_simp) (fun f => f)
 have b2 := k1.cell (a := ⟨w.heap.size, 2, none⟩) (v := .int .i64 id) (by go_simp) (fun f => f)
 have hnp : w.heap.size < w1.heap.size := by have := k1.size; simp at this; omega
 have K1 := Lib.hid (tt ((Kept.refl _ _).alloc _) k1)
 clear k1
 go_wp2
 have c0 : ∀ o, (w1.alloc o).cell? ⟨w.heap.size, 0, none⟩ = some (.int .u8 115) := fun o => ((Kept.refl (fun _ => False) w1).alloc o).cell b0 (fun f => f)
 go_region
 all_goals go_wp2_with fail
 refine (C.out _).mono ?_
 rintro e w2 ⟨rfl, k2⟩
 have K2 := Lib.hid (tt K1.out (tt ((Kept.refl _ _).alloc _).drew k2))
 have d0 := k2.cell (a := ⟨w.heap.size, 0, none⟩) (v := .int .u8 115) (c0 _) (fun f => f)
 have d1 := k2.cell (a := ⟨w.heap.size, 1, none⟩) (v := .int .i64 tr) (((Kept.refl (fun _ => False) w1).alloc _).cell b1 (fun f => f)) (fun f => f)
 have d2 := k2.cell (a := ⟨w.heap.size, 2, none⟩) (v := .int .i64 id) (((Kept.refl (fun _ => False) w1).alloc _).cell b2 (fun f => f)) (fun f => f)
 clear k2 c0 b0 b1 b2
 go_wp2
 go_region
 all_goals go_wp2_with (go_at_call 137; refine (BG.out _ _ _ (by simp) (by simp)).mono ?_; rintro e w3 ⟨rfl, k3⟩; have K3 := Lib.hid (tt K2.out (tt ((Kept.refl _ _).drew.alloc _) k3)); clear k3)
 go_ret2
 exact ⟨rfl, K3.out⟩

def keyR (tr id : Int) : ByteArray := match ofB tr id with | true => keyF tr id | false => .empty
set_option maxRecDepth 100000 in
theorem of_all (tr id : Int) (w : World) (ht : tr ≤ 9223372036854775807) (hi : id ≤ 9223372036854775807) : Calls Tryz.prog 155 #[.int .i64 tr, .int .i64 id] w fun e w' => e = .returned (.tuple #[.string (keyR tr id), .int .i64 (errN (ofB tr id))]) ∧ Kept (fun _ => False) w w' := by
 unfold keyR
 cases hB : ofB tr id with
 | true =>
  have K := Lib.hid (key_good tr id w ht hi hB)
  have T := Lib.hid (told_all (keyF tr id) true)
  clear hB
  go_enter Tryz.func155, Tryz.ntmps155
  go_wp2_with (first | (go_at_call 143; refine K.out.mono ?_; rintro e w1 ⟨rfl, k1⟩) | (go_at_call 249; refine (T.out _).mono ?_; rintro e w2 ⟨rfl, rfl⟩))
  go_ret2
  exact ⟨rfl, k1⟩
 | false =>
  have K := Lib.hid (key_bad tr id w hB)
  have T := Lib.hid (told_all .empty false)
  clear hB
  go_enter Tryz.func155, Tryz.ntmps155
  go_wp2_with (first | (go_at_call 143; refine K.out.mono ?_; rintro e w1 ⟨rfl, k1⟩) | (go_at_call 249; refine (T.out _).mono ?_; rintro e w2 ⟨rfl, rfl⟩))
  go_ret2
  exact ⟨rfl, k1⟩

def spX (m : Spn) : Spn := ⟨m.tr, m.id, 0, m.se, m.ho, m.st, 0, .empty⟩
theorem chk_spX {m : Spn} (h : chkB m = true) : chkB (spX m) = true := by
 unfold chkB okJ leastJ mostJ numJ at h ⊢
 unfold spX
 simp only [Bool.and_eq_true, decide_eq_true_eq] at h ⊢
 refine ⟨⟨⟨⟨⟨⟨⟨?_, ?_⟩, ?_⟩, ?_⟩, ?_⟩, ?_⟩, ?_⟩, ?_⟩
 ·exact h.1.1.1.1.1.1.1
 ·exact h.1.1.1.1.1.1.2
 ·omega
 ·exact h.1.1.1.1.2
 ·omega
 ·exact h.1.1.2
 ·exact h.1.2
 ·show 0 ≤ 24; omega
theorem chk_size {m : Spn} (h : chkB m = true) : m.se.size ≤ 12 ∧ m.ho.size ≤ 12 ∧ m.no.size ≤ 24 := by
 unfold chkB at h
 simp only [Bool.and_eq_true, decide_eq_true_eq] at h
 obtain ⟨⟨⟨⟨⟨⟨⟨h0, h1⟩, h2⟩, h3⟩, h4⟩, h5⟩, h6⟩, h7⟩ := h
 have nm : ∀ {s : ByteArray}, nameB s = true → s.size ≤ 12 := fun {s} h => by
  unfold nameB at h
  simp only [Bool.and_eq_true, decide_eq_true_eq] at h
  exact h.1.2
 exact ⟨nm h5, nm h6, h7⟩
theorem chk_of {m : Spn} (h : chkB m = true) : ofB m.tr m.id = true := by
 have g := chk_num h
 unfold ofB
 simp
 omega
def xS : ByteArray := ⟨#[120]⟩
def nS : ByteArray := ⟨#[0]⟩
def xkeyF (m : Spn) : ByteArray := xS ++ m.se ++ nS ++ m.ho ++ nS ++ (bigF m.st ++ bigF m.tr ++ bigF m.id)

set_option maxHeartbeats 2000000 in
set_option maxRecDepth 100000 in
theorem key_x (m : Spn) (w : World) (hB : chkB m = true) : Calls Tryz.prog 143 #[.agg #[.int .u8 120, .int .i64 m.tr, .int .i64 m.id, .int .i64 m.st, .string m.se, .string m.ho]] w fun e w' => e = .returned (.tuple #[.string (xkeyF m), .bool true]) ∧ Kept (fun _ => False) w w' := by
 have tt : ∀ {a b c : World}, Kept (fun _ => False) a b → Kept (fun _ => False) b c → Kept (fun _ => False) a c := fun h k => h.trans k (fun _ _ h => h) (fun _ _ h => h)
 have z0 := bigF_size m.st
 have z1 := bigF_size m.tr
 have z2 := bigF_size m.id
 have g := chk_num hB
 obtain ⟨y1, y2, _⟩ := chk_size hB
 unfold xkeyF
 have BG := Lib.hid (fun (w' : World) (g0 cap : Nat) => bigs3 (a := m.st) (b := m.tr) (c := m.id) (g := g0) (o := 0) (cap := cap) (w := w') (by omega) (by omega) (by omega))
 have zz : (bigF m.st ++ bigF m.tr ++ bigF m.id).size ≤ 24 := by simp only [ByteArray.size_append]; omega
 obtain ⟨BB, hBB⟩ : ∃ BB, bigF m.st ++ bigF m.tr ++ bigF m.id = BB := ⟨_, rfl⟩
 rw [hBB] at BG zz ⊢
 clear hBB z0 z1 z2
 have C := Lib.hid (fun w => check_all (spX m) (by show m.se.size ≤ _; omega) (by show m.ho.size ≤ _; omega) (by show 0 ≤ _; omega) w)
 rw [chk_spX hB] at C
 have LK := Lib.hid (like_all 120 m.tr m.id m.st m.se m.ho)
 unfold aggS spX at C
 unfold aggS at LK
 clear hB g
 go_enter Tryz.func143, Tryz.ntmps143
 go_wp2_with fail
 refine (LK.out _).mono ?_
 rintro e w1 ⟨rfl, k1⟩
 have b0 := k1.cell (a := ⟨w.heap.size, 0, none⟩) (v := .int .u8 120) (by go_simp) (fun f => f)
 have b1 := k1.cell (a := ⟨w.heap.size, 1, none⟩) (v := .int .i64 m.tr) (by go_simp) (fun f => f)
 have b2 := k1.cell (a := ⟨w.heap.size, 2, none⟩) (v := .int .i64 m.id) (by go_simp) (fun f => f)
 have b3 := k1.cell (a := ⟨w.heap.size, 3, none⟩) (v := .int .i64 m.st) (by go_simp) (fun f => f)
 have b4 := k1.cell (a := ⟨w.heap.size, 4, none⟩) (v := .string m.se) (by go_simp) (fun f => f)
 have b5 := k1.cell (a := ⟨w.heap.size, 5, none⟩) (v := .string m.ho) (by go_simp) (fun f => f)
 have K1 := Lib.hid (tt ((Kept.refl _ _).alloc _) k1)
 clear k1
 go_wp2
 have c0 : ∀ o, (w1.alloc o).cell? ⟨w.heap.size, 0, none⟩ = some (.int .u8 120) := fun o => ((Kept.refl (fun _ => False) w1).alloc o).cell b0 (fun f => f)
 go_region
 all_goals go_wp2_with fail
 refine (C.out _).mono ?_
 rintro e w2 ⟨rfl, k2⟩
 have K2 := Lib.hid (tt K1.out (tt ((Kept.refl _ _).alloc _).drew k2))
 have d0 := k2.cell (a := ⟨w.heap.size, 0, none⟩) (v := .int .u8 120) (c0 _) (fun f => f)
 have d1 := k2.cell (a := ⟨w.heap.size, 1, none⟩) (v := .int .i64 m.tr) (((Kept.refl (fun _ => False) w1).alloc _).cell b1 (fun f => f)) (fun f => f)
 have d2 := k2.cell (a := ⟨w.heap.size, 2, none⟩) (v := .int .i64 m.id) (((Kept.refl (fun _ => False) w1).alloc _).cell b2 (fun f => f)) (fun f => f)
 have d3 := k2.cell (a := ⟨w.heap.size, 3, none⟩) (v := .int .i64 m.st) (((Kept.refl (fun _ => False) w1).alloc _).cell b3 (fun f => f)) (fun f => f)
 have d4 := k2.cell (a := ⟨w.heap.size, 4, none⟩) (v := .string m.se) (((Kept.refl (fun _ => False) w1).alloc _).cell b4 (fun f => f)) (fun f => f)
 have d5 := k2.cell (a := ⟨w.heap.size, 5, none⟩) (v := .string m.ho) (((Kept.refl (fun _ => False) w1).alloc _).cell b5 (fun f => f)) (fun f => f)
 clear k2 c0 b0 b1 b2 b3 b4 b5
 go_wp2
 go_region
 all_goals go_wp2_with fail
 have s1 : ¬ 9223372036854775807 < 1 + m.se.size := by omega
 have s2 : ¬ 9223372036854775807 < 1 + m.se.size + 1 := by omega
 have s3 : ¬ 9223372036854775807 < 1 + m.se.size + 1 + m.ho.size := by omega
 have s4 : ¬ 9223372036854775807 < 1 + m.se.size + 1 + m.ho.size + 1 := by omega
 have s5 : ¬ 9223372036854775807 < 1 + m.se.size + 1 + m.ho.size + 1 + BB.size := by omega
 refine wp_region_held_drew (S := (fun w' => w'.cell? ⟨w.heap.size, 1, none⟩ = some (.int .i64 m.tr) ∧ w'.cell? ⟨w.heap.size, 2, none⟩ = some (.int .i64 m.id) ∧ w'.cell? ⟨w.heap.size, 3, none⟩ = some (.int .i64 m.st) ∧ w'.cell? ⟨w.heap.size, 4, none⟩ = some (.string m.se) ∧ w'.cell? ⟨w.heap.size, 5, none⟩ = some (.string m.ho))) (by kernel_rfl) ?_ (fun hHeld => ?_)
 ·exact ⟨d1, d2, d3, d4, d5⟩
 refine tW 0 opAt0 hHeld ?_
 (try simp only [Act.put]); try simp only [z2, List.set]
 refine tW 1 opAt1 hHeld ?_
 (try simp only [Act.put]); try simp only [z2, List.set]
 refine tW 2 opAt2 hHeld ?_
 (try simp only [Act.put]); try simp only [z2, List.set]
 refine tW 3 opAt3 hHeld ?_
 (try simp only [Act.put]); try simp only [z2, List.set]
 refine tW 4 opAt4 hHeld ?_
 (try simp only [Act.put]); try simp only [z2, List.set]
 refine tW 5 opAt5 hHeld ?_
 (try simp only [Act.put]); try simp only [z2, List.set]
 refine tW 6 opAt6 hHeld ?_
 (try simp only [Act.put]); try simp only [z2, List.set]
 refine tW 7 opAt7 hHeld ?_
 (try simp only [Act.put]); try simp only [z2, List.set]
 refine tW 8 opAt8 hHeld ?_
 (try simp only [Act.put]); try simp only [z2, List.set]
 refine tW 9 opAt9 hHeld ?_
 (try simp only [Act.put]); try simp only [z2, List.set]
 refine tW 10 opAt10 hHeld ?_
 (try simp only [Act.put]); try simp only [z2, List.set]
 refine tW 11 opAt11 hHeld ?_
 (try simp only [Act.put]); try simp only [z2, List.set]
 refine tW 12 opAt12 hHeld ?_
 (try simp only [Act.put]); try simp only [z2, List.set]
 refine tW 13 opAt13 hHeld ?_
 (try simp only [Act.put]); try simp only [z2, List.set]
 refine wpAnyH_ready (rs := [14]) (by kernel_rfl) (by simp) ?_
 refine AllReadyH.cons opAt14 (fun K hK => ?_) AllReadyH.nil
 go_simp
 skip
 refine hK.out _ _ ?_ (fun hHeld => ?_)
 ·exact ⟨((Kept.refl (fun _ => False) _).alloc _).cell hHeld.1 (fun f => f), ((Kept.refl (fun _ => False) _).alloc _).cell hHeld.2.1 (fun f => f), ((Kept.refl (fun _ => False) _).alloc _).cell hHeld.2.2.1 (fun f => f), ((Kept.refl (fun _ => False) _).alloc _).cell hHeld.2.2.2.1 (fun f => f), ((Kept.refl (fun _ => False) _).alloc _).cell hHeld.2.2.2.2 (fun f => f)⟩
 clear hK K
 (try simp only [Act.put]); try simp only [z2, List.set]
 refine wpAnyH_ready (rs := [15]) (by kernel_rfl) (by simp) ?_
 refine AllReadyH.cons opAt15 (fun K hK => ?_) AllReadyH.nil
 go_simp
 go_at_call 137; refine (BG.out _ _ _ (by simp) (by simp) (by simp)).mono ?_; rintro e w3 ⟨rfl, k3⟩; have K3 := Lib.hid (tt K2.out (tt ((Kept.refl _ _).alloc _).drew.drew k3)); dsimp only
 refine hK.out _ _ ?_ (fun hHeld => ?_)
 ·exact ⟨k3.cell hHeld.1 (fun f => f), k3.cell hHeld.2.1 (fun f => f), k3.cell hHeld.2.2.1 (fun f => f), k3.cell hHeld.2.2.2.1 (fun f => f), k3.cell hHeld.2.2.2.2 (fun f => f)⟩
 clear hK K
 (try simp only [Act.put]); try simp only [z2, List.set]
 refine tW 16 opAt16 hHeld ?_
 (try simp only [Act.put]); try simp only [z2, List.set]
 refine tW 17 opAt17 hHeld ?_
 (try simp only [Act.put]); try simp only [z2, List.set]
 refine tW 18 opAt18 hHeld ?_
 (try simp only [Act.put]); try simp only [z2, List.set]
 refine wpAnyH_done (by kernel_rfl) ?_ _
 go_wp2
 go_ret2
 exact ⟨rfl, K3.out⟩
end Go.Proofs.YthknocapablpaaaGreatDoor

/- spans.Encode of any span. -/
namespace Go.Proofs.YthknocapablpaaaGreatDoor
set_option maxRecDepth 100000
open Go.RowKit Go.Lib

set_option maxHeartbeats 4000000 in
set_option maxRecDepth 100000 in
theorem enc_bad (m : Spn) (hs : m.se.size ≤ 9223372036854775807) (hh : m.ho.size ≤ 9223372036854775807) (hn : m.no.size ≤ 9223372036854775807) (hB : chkB m = false) (w : World) :
  Calls Tryz.prog 154 #[aggS m] w fun e w' => e = .returned (.tuple #[.string .empty, .int .i64 2]) ∧ Kept (fun _ => False) w w' := by
 have C := Lib.hid (check_all m hs hh hn)
 rw [hB] at C
 unfold aggS at C ⊢
 go_enter Tryz.func154, Tryz.ntmps154
 go_wp2_with (go_at_call 54; refine (C.out _).mono ?_; rintro e w1 ⟨rfl, k1⟩)
 go_ret2
 exact ⟨rfl, ((Kept.refl _ w).alloc _).trans k1 (fun _ _ f => f) (fun _ _ f => f)⟩

set_option maxHeartbeats 8000000 in
set_option maxRecDepth 100000 in
theorem enc_good (m : Spn) (hs : m.se.size ≤ 12) (hh : m.ho.size ≤ 12) (hn : m.no.size ≤ 24) (hnum : ∀ j, numJ m j ≤ 9223372036854775807) (hB : chkB m = true) (w : World) :
  Calls Tryz.prog 154 #[aggS m] w fun e w' => e = .returned (.tuple #[.string (encF m), .int .i64 0]) ∧ Kept (fun _ => False) w w' := by
 have C := Lib.hid (check_all m (by omega) (by omega) (by omega))
 have ht : ∀ j, (textJ m j).size ≤ 24 := fun j => by
  match j with
  | 0 => show m.se.size ≤ 24; omega
  | 1 => show m.ho.size ≤ 24; omega
  | j + 2 => show m.no.size ≤ 24; omega
 have HN := Lib.hid (accN_length m)
 have HT := Lib.hid (accT_length m ht)
 have TJ := Lib.hid ht
 have NJ := Lib.hid hnum
 clear ht hnum
 rw [hB] at C
 unfold aggS at C ⊢
 go_enter Tryz.func154, Tryz.ntmps154
 go_wp2_with fail
 obtain ⟨W, hW⟩ : ∃ W, w.alloc (.cells #[.int .i64 m.tr, .int .i64 m.id, .int .i64 m.pa, .string m.se, .string m.ho, .int .i64 m.st, .int .i64 m.du, .string m.no] 96) = W := ⟨_, rfl⟩
 have K0 : Kept (fun _ => False) w W := by rw [← hW]; exact (Kept.refl _ w).alloc _
 have q0 : SpanAt W w.heap.size m := by rw [← hW]; exact SpanAt.new
 rw [hW]
 clear hW
 refine (C.out W).mono ?_
 rintro e w1 ⟨rfl, k1⟩
 have K1 := Lib.hid (K0.trans k1 (fun _ _ f => f) (fun _ _ f => f) : Kept (fun _ => False) w w1)
 have Q1 := Lib.hid (q0.keptF k1)
 clear k1 K0 q0 C
 obtain ⟨p, hp⟩ : ∃ p, w.heap.size = p := ⟨_, rfl⟩
 rw [hp] at Q1 ⊢
 have HP := Lib.hid hp
 clear hp
 go_wp2_with fail
 have LB : p < w1.heap.size := World.block_lt_of_cell? _ _ (Q1.out.num 0)
 have b0 := Lib.hid (Lib.fresh_isBuilder 263 5 w1)
 have L0 := Lib.hid ((Below.refl w1.heap.size w1).alloc' (Nat.le_refl _) (.cells #[.pointer none, .slice none 0 0] 263))
 have BB := Lib.hid (Nat.le_refl w1.heap.size)
 obtain ⟨W4, hW4⟩ : ∃ W4, w1.alloc (.cells #[.pointer none, .slice none 0 0] 263) = W4 := ⟨_, rfl⟩
 rw [hW4] at b0 L0 ⊢
 clear hW4
 obtain ⟨B, hBB⟩ : ∃ B, w1.heap.size = B := ⟨_, rfl⟩
 rw [hBB] at LB b0 L0 BB ⊢
 have BW := Lib.hid (Nat.le_of_eq hBB.symm)
 clear hBB
 refine (numbers_any p W4).mono ?_
 rintro e w5 ⟨rfl, k5⟩
 have L5 := Lib.hid (L0.out.step BW.out k5 (fun _ f => f.elim))
 have b5 := Lib.hid (IsBuilder.keptF b0.out k5)
 clear L0 b0 k5 BB
 obtain ⟨nv, hnv⟩ : ∃ nv, numsV p = nv := ⟨_, rfl⟩
 have X := Lib.hid (ixJ p)
 rw [hnv] at X ⊢
 clear hnv
 go_wp2
 go_loopg [16] 5 (fun g t wr => ∃ i : Nat, i + g = 5 ∧ t = .int .i64 i ∧ Below B w1 wr ∧ Lib.IsBuilder 263 5 B B (Lib.byteCells (accN m i)) wr)
 case atStart => exact ⟨0, by omega, rfl, L5.out, b5.out⟩
 case round =>
  obtain ⟨i, hi, rfl, hLW, hbW⟩ := hrel
  have LW := Lib.hid hLW
  have bW := Lib.hid hbW
  have HI := Lib.hid hi
  have QW := Lib.hid (Q1.out.kept (below_kept hLW) (by omega))
  clear hi hLW hbW
  by_cases h5 : i < 5
  ·have i1 : (i : Int) < 5 := by omega
   have x0 := X.out i h5
   obtain ⟨l, hl⟩ : ∃ l, leastJ i = l := ⟨_, rfl⟩
   obtain ⟨u, hu⟩ : ∃ u, mostJ i = u := ⟨_, rfl⟩
   obtain ⟨o, ho⟩ : ∃ o, offJ i = o := ⟨_, rfl⟩
   have qq := QW.out.num i
   have qa : ∀ ob, (wr.alloc ob).cell? ⟨p, offJ i, none⟩ = some (.int .i64 (numJ m i)) := fun ob => ((Kept.refl (fun _ => False) wr).alloc ob).cell qq (fun f => f)
   rw [ho] at qq qa
   rw [hl, hu, ho] at x0
   clear hl hu ho
   go_wp2_with (first | (go_at_call 165; refine (put_all _ _ (NJ.out i)).mono ?_; rintro e w6 ⟨rfl, k6⟩; have L6 := Lib.hid ((LW.out.alloc' BW.out _).step BW.out k6 (fun _ f => f.elim)); have b6 := Lib.hid (IsBuilder.keptF (IsBuilder.keptF bW.out ((Kept.refl _ _).alloc _)) k6); clear k6) | (go_at_call 163; refine (wri_all B B _ _ _ b6.out (by rw [Lib.byteCells_length]; have := HN.out i; have := putF_size (numJ m i); omega) (Nat.le_trans BW.out L6.out.size)).mono ?_; rintro e w7 ⟨rfl, b7, l7⟩; have B7 := Lib.hid b7; have L7 := Lib.hid (L6.out.trans l7); clear b7 l7))
   go_roundg (5 - i - 1)
   case measure => have := HI.out; omega
   case rel => exact ⟨i + 1, by omega, by go_num, L7.out, .inr (by have := B7.out; rw [Lib.strCells_eq, ← Lib.byteCells_append] at this; exact this)⟩
  ·have h5' : i = 5 := by have := HI.out; omega
   subst h5'
   go_wp2_with fail
   refine (texts_any p wr).mono ?_
   rintro e w8 ⟨rfl, k8⟩
   have L8 := Lib.hid (LW.out.step BW.out k8 (fun _ f => f.elim))
   have b8 := Lib.hid (IsBuilder.keptF bW.out k8)
   clear LW bW k8 QW HI h5
   obtain ⟨tv, htv⟩ : ∃ tv, textsV p = tv := ⟨_, rfl⟩
   have X2 := Lib.hid (ixT p)
   rw [htv] at X2 ⊢
   clear htv
   go_wp2
   go_loopg [27] 3 (fun g t wr => ∃ i : Nat, i + g = 3 ∧ t = .int .i64 i ∧ Below B w1 wr ∧ Lib.IsBuilder 263 5 B B (Lib.byteCells (accT m i)) wr)
   case atStart => exact ⟨0, by omega, rfl, L8.out, b8.out⟩
   case round =>
    obtain ⟨i, hi, rfl, hLW, hbW⟩ := hrel
    rename_i wv _
    have LW := Lib.hid hLW
    have bW := Lib.hid hbW
    have HI := Lib.hid hi
    have QW := Lib.hid (Q1.out.kept (below_kept hLW) (by omega))
    clear hi hLW hbW
    by_cases h3 : i < 3
    ·have i1 : (i : Int) < 3 := by omega
     have x0 := X2.out i h3
     have qq := QW.out.text i
     obtain ⟨o, ho⟩ : ∃ o, offT i = o := ⟨_, rfl⟩
     obtain ⟨tx, htx⟩ : ∃ tx, textJ m i = tx := ⟨_, rfl⟩
     rw [ho, htx] at qq
     rw [ho] at x0
     have TX := Lib.hid htx
     have tz : tx.size ≤ 24 := by rw [← htx]; exact TJ.out i
     clear ho htx
     go_wp2_with (first | (go_at_call 164; refine (puttext_all _ _ (by omega)).mono ?_; rintro e w9 ⟨rfl, k9⟩; have L9 := Lib.hid (LW.out.step BW.out k9 (fun _ f => f.elim)); have b9 := Lib.hid (IsBuilder.keptF bW.out k9); clear k9) | (go_at_call 163; refine (wri_all B B _ _ _ b9.out (by rw [Lib.byteCells_length]; have := HT.out i; have := ptxt_size tx; omega) (Nat.le_trans BW.out L9.out.size)).mono ?_; rintro e w10 ⟨rfl, b10, l10⟩; have B10 := Lib.hid b10; have L10 := Lib.hid (L9.out.trans l10); clear b10 l10))
     go_roundg (3 - i - 1)
     case measure => have := HI.out; omega
     case rel => exact ⟨i + 1, by omega, by go_num, L10.out, .inr (by have := B10.out; rw [← TX.out, Lib.strCells_eq, ← Lib.byteCells_append] at this; exact this)⟩
    ·have h3' : i = 3 := by have := HI.out; omega
     subst h3'
     go_wp2_with (go_at_call 166; refine (str_all B B _ _ bW.out (Nat.le_trans BW.out LW.out.size)).mono ?_; rintro e w11 ⟨rfl, l11⟩; have L11 := Lib.hid (LW.out.trans l11); clear l11)
     go_ret2
     refine ⟨rfl, K1.out.trans (below_kept L11.out) (fun _ _ f => f) (fun k hk f => by have := HP.out; omega)⟩

/-- What is told of a span: its bytes, if it may be. -/
def encR (m : Spn) : ByteArray := match chkB m with | true => encF m | false => .empty
theorem enc_all (m : Spn) (hs : m.se.size ≤ 9223372036854775807) (hh : m.ho.size ≤ 9223372036854775807) (hn : m.no.size ≤ 9223372036854775807) (w : World) :
  Calls Tryz.prog 154 #[aggS m] w fun e w' => e = .returned (.tuple #[.string (encR m), .int .i64 (errN (chkB m))]) ∧ Kept (fun _ => False) w w' := by
 unfold encR
 cases hB : chkB m with
 | false => exact enc_bad m hs hh hn hB w
 | true =>
  have h := hB
  unfold chkB at h
  simp only [Bool.and_eq_true, decide_eq_true_eq] at h
  obtain ⟨⟨⟨⟨⟨⟨⟨h0, h1⟩, h2⟩, h3⟩, h4⟩, h5⟩, h6⟩, h7⟩ := h
  have nm : ∀ {s : ByteArray}, nameB s = true → s.size ≤ 12 := fun {s} h => by
   unfold nameB at h
   simp only [Bool.and_eq_true, decide_eq_true_eq] at h
   exact h.1.2
  have g := chk_num hB
  refine enc_good m (nm h5) (nm h6) h7 (fun j => ?_) hB w
  match j with
  | 0 => show m.tr ≤ _; omega
  | 1 => show m.id ≤ _; omega
  | 2 => show m.pa ≤ _; omega
  | 3 => show m.st ≤ _; omega
  | j + 4 => show m.du ≤ _; omega
end Go.Proofs.YthknocapablpaaaGreatDoor

/- keys.Index and rows.Cells of a span that may be. -/
namespace Go.Proofs.YthknocapablpaaaGreatDoor
set_option maxRecDepth 100000
open Go.RowKit

set_option maxHeartbeats 2000000 in
set_option maxRecDepth 100000 in
theorem index_good (m : Spn) (w : World) (hB : chkB m = true) : Calls Tryz.prog 156 #[aggS m] w fun e w' => e = .returned (.tuple #[.string (xkeyF m), .int .i64 0]) ∧ Kept (fun _ => False) w w' := by
 have tt : ∀ {a b c : World}, Kept (fun _ => False) a b → Kept (fun _ => False) b c → Kept (fun _ => False) a c := fun h k => h.trans k (fun _ _ h => h) (fun _ _ h => h)
 obtain ⟨y1, y2, y3⟩ := chk_size hB
 have C := Lib.hid (fun w => check_all m (by omega) (by omega) (by omega) w)
 rw [hB] at C
 have KX := Lib.hid (fun w => key_x m w hB)
 obtain ⟨xk, hxk⟩ : ∃ xk, xkeyF m = xk := ⟨_, rfl⟩
 rw [hxk] at KX ⊢
 have T := Lib.hid (told_all xk true)
 clear hxk hB
 unfold aggS at C ⊢
 go_enter Tryz.func156, Tryz.ntmps156
 go_wp2_with fail
 refine (C.out _).mono ?_
 rintro e w1 ⟨rfl, k1⟩
 have d0 := k1.cell (a := ⟨w.heap.size, 0, none⟩) (v := .int .i64 m.tr) (by go_simp) (fun f => f)
 have d1 := k1.cell (a := ⟨w.heap.size, 1, none⟩) (v := .int .i64 m.id) (by go_simp) (fun f => f)
 have d3 := k1.cell (a := ⟨w.heap.size, 3, none⟩) (v := .string m.se) (by go_simp) (fun f => f)
 have d4 := k1.cell (a := ⟨w.heap.size, 4, none⟩) (v := .string m.ho) (by go_simp) (fun f => f)
 have d5 := k1.cell (a := ⟨w.heap.size, 5, none⟩) (v := .int .i64 m.st) (by go_simp) (fun f => f)
 have K1 := Lib.hid (tt ((Kept.refl _ _).alloc _) k1)
 clear k1
 go_wp2_with fail
 refine wp_region_held_drew (S := (fun w' => w'.cell? ⟨w.heap.size, 0, none⟩ = some (.int .i64 m.tr) ∧ w'.cell? ⟨w.heap.size, 1, none⟩ = some (.int .i64 m.id) ∧ w'.cell? ⟨w.heap.size, 5, none⟩ = some (.int .i64 m.st) ∧ w'.cell? ⟨w.heap.size, 3, none⟩ = some (.string m.se) ∧ w'.cell? ⟨w.heap.size, 4, none⟩ = some (.string m.ho))) (by kernel_rfl) ?_ (fun hHeld => ?_)
 ·exact ⟨d0, d1, d5, d3, d4⟩
 refine tW 0 opAt0 hHeld ?_
 (try simp only [Act.put]); try simp only [z2, List.set]
 refine tW 1 opAt1 hHeld ?_
 (try simp only [Act.put]); try simp only [z2, List.set]
 refine tW 2 opAt2 hHeld ?_
 (try simp only [Act.put]); try simp only [z2, List.set]
 refine tW 3 opAt3 hHeld ?_
 (try simp only [Act.put]); try simp only [z2, List.set]
 refine tW 4 opAt4 hHeld ?_
 (try simp only [Act.put]); try simp only [z2, List.set]
 refine tW 5 opAt5 hHeld ?_
 (try simp only [Act.put]); try simp only [z2, List.set]
 refine tW 6 opAt6 hHeld ?_
 (try simp only [Act.put]); try simp only [z2, List.set]
 refine tW 7 opAt7 hHeld ?_
 (try simp only [Act.put]); try simp only [z2, List.set]
 refine tW 8 opAt8 hHeld ?_
 (try simp only [Act.put]); try simp only [z2, List.set]
 refine tW 9 opAt9 hHeld ?_
 (try simp only [Act.put]); try simp only [z2, List.set]
 refine tW 10 opAt10 hHeld ?_
 (try simp only [Act.put]); try simp only [z2, List.set]
 refine tW 11 opAt11 hHeld ?_
 (try simp only [Act.put]); try simp only [z2, List.set]
 refine wpAnyH_ready (rs := [12]) (by kernel_rfl) (by simp) ?_
 refine AllReadyH.cons opAt12 (fun K hK => ?_) AllReadyH.nil
 go_simp
 go_at_call 143; refine (KX.out _).mono ?_; rintro e w3 ⟨rfl, k3⟩; have K3 := Lib.hid (tt K1.out (tt (Kept.refl _ _).drew k3)); dsimp only
 refine hK.out _ _ ?_ (fun hHeld => ?_)
 ·exact ⟨k3.cell hHeld.1 (fun f => f), k3.cell hHeld.2.1 (fun f => f), k3.cell hHeld.2.2.1 (fun f => f), k3.cell hHeld.2.2.2.1 (fun f => f), k3.cell hHeld.2.2.2.2 (fun f => f)⟩
 clear hK K
 (try simp only [Act.put]); try simp only [z2, List.set]
 refine tW 13 opAt13 hHeld ?_
 (try simp only [Act.put]); try simp only [z2, List.set]
 refine tW 14 opAt14 hHeld ?_
 (try simp only [Act.put]); try simp only [z2, List.set]
 refine wpAnyH_ready (rs := [15]) (by kernel_rfl) (by simp) ?_
 refine AllReadyH.cons opAt15 (fun K hK => ?_) AllReadyH.nil
 go_simp
 go_at_call 249; refine (T.out _).mono ?_; rintro e w4 ⟨rfl, rfl⟩; dsimp only
 refine hK.out _ _ ?_ (fun hHeld => ?_)
 ·exact hHeld
 clear hK K
 (try simp only [Act.put]); try simp only [z2, List.set]
 refine tW 16 opAt16 hHeld ?_
 (try simp only [Act.put]); try simp only [z2, List.set]
 refine tW 17 opAt17 hHeld ?_
 (try simp only [Act.put]); try simp only [z2, List.set]
 refine tW 18 opAt18 hHeld ?_
 (try simp only [Act.put]); try simp only [z2, List.set]
 refine tW 19 opAt19 hHeld ?_
 (try simp only [Act.put]); try simp only [z2, List.set]
 refine wpAnyH_done (by kernel_rfl) ?_ _
 go_wp2
 go_ret2
 exact ⟨rfl, K3.out⟩

/-- The cells of a span that may be: itself, and in the index. -/
def cellsOfS (m : Spn) : List Value := [.string (keyF m.tr m.id), .int .i64 0, .string (encF m), .string (xkeyF m), .int .i64 0, .string .empty]
def TwoCells (w : World) (m : Spn) (e : Ending) (w' : World) : Prop := ∃ g, e = .returned (.tuple #[.slice (some ⟨g, 0, none⟩) 2 2, .int .i64 0]) ∧ w.heap.size ≤ g ∧ (∀ j u, (cellsOfS m)[j]? = some u → w'.cell? ⟨g, j, none⟩ = some u) ∧ Kept (fun _ => False) w w'
set_option maxHeartbeats 2000000 in
set_option maxRecDepth 100000 in
theorem cells_good (m : Spn) (w : World) (hB : chkB m = true) : Calls Tryz.prog 93 #[aggS m] w (TwoCells w m) := by
 have tt : ∀ {a b c : World}, Kept (fun _ => False) a b → Kept (fun _ => False) b c → Kept (fun _ => False) a c := fun h k => h.trans k (fun _ _ h => h) (fun _ _ h => h)
 obtain ⟨y1, y2, y3⟩ := chk_size hB
 have gn := chk_num hB
 have EN := Lib.hid (enc_all m (by omega) (by omega) (by omega))
 unfold encR at EN
 rw [hB] at EN
 have OF := Lib.hid (fun w => of_all m.tr m.id w (by omega) (by omega))
 unfold keyR at OF
 rw [chk_of hB] at OF
 have IX := Lib.hid (fun w => index_good m w hB)
 unfold TwoCells cellsOfS
 obtain ⟨ev, hev⟩ : ∃ ev, encF m = ev := ⟨_, rfl⟩
 obtain ⟨kv, hkv⟩ : ∃ kv, keyF m.tr m.id = kv := ⟨_, rfl⟩
 obtain ⟨xv, hxv⟩ : ∃ xv, xkeyF m = xv := ⟨_, rfl⟩
 rw [hev] at EN ⊢
 rw [hkv] at OF ⊢
 rw [hxv] at IX ⊢
 clear hB gn hev hkv hxv
 unfold aggS at EN IX ⊢
 go_enter Tryz.func93, Tryz.ntmps93
 go_wp2_with fail
 refine (EN.out _).mono ?_
 rintro e w1 ⟨rfl, k1⟩
 have d0 := k1.cell (a := ⟨w.heap.size, 0, none⟩) (v := .int .i64 m.tr) (by go_simp) (fun f => f)
 have d1 := k1.cell (a := ⟨w.heap.size, 1, none⟩) (v := .int .i64 m.id) (by go_simp) (fun f => f)
 have d2 := k1.cell (a := ⟨w.heap.size, 2, none⟩) (v := .int .i64 m.pa) (by go_simp) (fun f => f)
 have d3 := k1.cell (a := ⟨w.heap.size, 3, none⟩) (v := .string m.se) (by go_simp) (fun f => f)
 have d4 := k1.cell (a := ⟨w.heap.size, 4, none⟩) (v := .string m.ho) (by go_simp) (fun f => f)
 have d5 := k1.cell (a := ⟨w.heap.size, 5, none⟩) (v := .int .i64 m.st) (by go_simp) (fun f => f)
 have d6 := k1.cell (a := ⟨w.heap.size, 6, none⟩) (v := .int .i64 m.du) (by go_simp) (fun f => f)
 have d7 := k1.cell (a := ⟨w.heap.size, 7, none⟩) (v := .string m.no) (by go_simp) (fun f => f)
 have K1 := Lib.hid (tt ((Kept.refl _ _).alloc _) k1)
 clear k1
 go_wp2_with fail
 refine (OF.out _).mono ?_
 rintro e w2 ⟨rfl, k2⟩
 have f0 := k2.cell (a := ⟨w.heap.size, 0, none⟩) (v := .int .i64 m.tr) d0 (fun f => f)
 have f1 := k2.cell (a := ⟨w.heap.size, 1, none⟩) (v := .int .i64 m.id) d1 (fun f => f)
 have f2 := k2.cell (a := ⟨w.heap.size, 2, none⟩) (v := .int .i64 m.pa) d2 (fun f => f)
 have f3 := k2.cell (a := ⟨w.heap.size, 3, none⟩) (v := .string m.se) d3 (fun f => f)
 have f4 := k2.cell (a := ⟨w.heap.size, 4, none⟩) (v := .string m.ho) d4 (fun f => f)
 have f5 := k2.cell (a := ⟨w.heap.size, 5, none⟩) (v := .int .i64 m.st) d5 (fun f => f)
 have f6 := k2.cell (a := ⟨w.heap.size, 6, none⟩) (v := .int .i64 m.du) d6 (fun f => f)
 have f7 := k2.cell (a := ⟨w.heap.size, 7, none⟩) (v := .string m.no) d7 (fun f => f)
 have K2 := Lib.hid (tt K1.out k2)
 clear k2
 go_wp2_with fail
 refine (IX.out _).mono ?_
 rintro e w3 ⟨rfl, k3⟩
 have K3 := Lib.hid (tt K2.out k3)
 clear k3
 go_wp2
 go_ret2
 refine ⟨w3.heap.size, rfl, K3.out.size, fun j u hu => ?_, K3.out.alloc _⟩
 rcases j with _ | _ | _ | _ | _ | _ | j <;> simp at hu <;> subst hu <;> first | (simp; done) | (simp; rfl)
end Go.Proofs.YthknocapablpaaaGreatDoor

/- Spans in memory. -/
namespace Go.Proofs.YthknocapablpaaaGreatDoor
set_option maxRecDepth 100000
open Go.RowKit

def cellsS : List Spn → List Value
 | [] => []
 | m :: t => m.cells ++ cellsS t
theorem cellsS_length : ∀ L, (cellsS L).length = L.length * 8
 | [] => rfl
 | m :: t => by simp [cellsS, cellsS_length t, Spn.cells]; omega
theorem cellsS_append : ∀ a b, cellsS (a ++ b) = cellsS a ++ cellsS b
 | [], b => rfl
 | m :: t, b => by simp [cellsS, cellsS_append t b]
theorem cellsS_at : ∀ (L : List Spn) (i : Nat) (m : Spn), L[i]? = some m → ∀ k, k < 8 → (cellsS L)[i * 8 + k]? = m.cells[k]?
 | [], i, m, h, _, _ => by simp at h
 | x :: t, 0, m, h, k, hk => by
  simp at h; subst h
  rw [cellsS, List.getElem?_append_left (by simp [Spn.cells]; omega)]; simp
 | x :: t, i + 1, m, h, k, hk => by
  have := cellsS_at t i m (by simpa using h) k hk
  rw [cellsS, List.getElem?_append_right (by simp [Spn.cells]; omega)]
  rw [← this]; congr 1; simp [Spn.cells]; omega
/-- A list of spans, as it lies. -/
def ReadsS (w : World) (v : Value) (L : List Spn) : Prop :=
 ∃ ao cap, v = .slice ao L.length cap ∧ (L = [] ∨ ∃ g o, ao = some ⟨g, o, none⟩ ∧ ∀ j u, (cellsS L)[j]? = some u → w.cell? ⟨g, o + j, none⟩ = some u)
theorem ReadsS.kept {S : Nat → Prop} {w w' : World} {v : Value} {L : List Spn} (h : ReadsS w v L) (hK : Kept S w w') (hS : ∀ k, v.ownBlock = some k → ¬ S k) (ho : ∀ g o n c, v = .slice (some ⟨g, o, none⟩) n c → ¬ S g) : ReadsS w' v L := by
 obtain ⟨ao, cap, rfl, h⟩ := h
 refine ⟨ao, cap, rfl, ?_⟩
 rcases h with h | ⟨g, o, rfl, hc⟩
 ·exact .inl h
 ·exact .inr ⟨g, o, rfl, fun j u hu => hK.cell (hc j u hu) (ho g o _ _ rfl)⟩
theorem ReadsS.keptF {w w' : World} {v : Value} {L : List Spn} (h : ReadsS w v L) (hK : Kept (fun _ => False) w w') : ReadsS w' v L := h.kept hK (fun _ _ f => f) (fun _ _ _ _ _ f => f)
theorem ReadsS.at {w : World} {L : List Spn} {g o : Nat} (hc : ∀ j u, (cellsS L)[j]? = some u → w.cell? ⟨g, o + j, none⟩ = some u) {i : Nat} {m : Spn} (hm : L[i]? = some m) :
  w.cell? ⟨g, o + i * 8, none⟩ = some (.int .i64 m.tr) ∧ w.cell? ⟨g, o + i * 8 + 1, none⟩ = some (.int .i64 m.id) ∧ w.cell? ⟨g, o + i * 8 + 2, none⟩ = some (.int .i64 m.pa) ∧ w.cell? ⟨g, o + i * 8 + 3, none⟩ = some (.string m.se) ∧ w.cell? ⟨g, o + i * 8 + 4, none⟩ = some (.string m.ho) ∧ w.cell? ⟨g, o + i * 8 + 5, none⟩ = some (.int .i64 m.st) ∧ w.cell? ⟨g, o + i * 8 + 6, none⟩ = some (.int .i64 m.du) ∧ w.cell? ⟨g, o + i * 8 + 7, none⟩ = some (.string m.no) := by
 have h := fun k hk u (hu : m.cells[k]? = some u) => hc _ u ((cellsS_at L i m hm k hk).trans hu)
 refine ⟨by have := h 0 (by omega) _ rfl; simpa [Nat.add_assoc] using this, by have := h 1 (by omega) _ rfl; simpa [Nat.add_assoc] using this, by have := h 2 (by omega) _ rfl; simpa [Nat.add_assoc] using this, by have := h 3 (by omega) _ rfl; simpa [Nat.add_assoc] using this, by have := h 4 (by omega) _ rfl; simpa [Nat.add_assoc] using this, by have := h 5 (by omega) _ rfl; simpa [Nat.add_assoc] using this, by have := h 6 (by omega) _ rfl; simpa [Nat.add_assoc] using this, by have := h 7 (by omega) _ rfl; simpa [Nat.add_assoc] using this⟩

end Go.Proofs.YthknocapablpaaaGreatDoor

/- rows.Expired of any span; rows.Take of spans that may be, whatever is there: its parts. -/
namespace Go.Proofs.YthknocapablpaaaGreatDoor
set_option maxRecDepth 100000
open Go.RowKit Go.MapKept Go.Instr Go.ChangeMaps

instance baLawful : LawfulBEq ByteArray := {
 eq_of_beq := fun {a b} h => of_decide_eq_true ((ba_beq a b).symm.trans h)
 rfl := fun {a} => (ba_beq a a).trans (decide_eq_true rfl) }
theorem own_kept {S : Nat → Prop} {w w' : World} {base e size : Nat} {v : Value} {n : Nat} {xs : List Value} (h : w.ownsRow base e size v n xs) (hK : Kept S w w') (hv : ∀ b, v.ownBlock = some b → ¬ S b) : w'.ownsRow base e size v n xs := by
 obtain ⟨h1, h2⟩ := h
 refine ⟨h1, ?_⟩
 rcases h2 with h2 | ⟨g, cap, cur, rfl, hb, hg, rest⟩
 ·exact .inl h2
 ·exact .inr ⟨g, cap, cur, rfl, hb, (hK.block g (Array.getElem?_eq_some_iff.1 hg).1 (hv g rfl)).trans hg, rest⟩
theorem own_from {w : World} {base e size : Nat} {v : Value} {n : Nat} {xs : List Value} (h : w.ownsRow base e size v n xs) {q : Nat} (hq : v.ownBlock = some q) : base ≤ q := by
 rcases h.2 with ⟨rfl, _⟩ | ⟨g, cap, cur, rfl, hb, _⟩
 ·cases hq
 ·cases hq; exact hb
theorem own_slice {w : World} {base e size : Nat} {v : Value} {n : Nat} {xs : List Value} (h : w.ownsRow base e size v n xs) : ∃ a c, v = .slice a n c := by
 rcases row_form h with ⟨h1, h2⟩ | ⟨g, c, h1, _⟩
 ·exact ⟨none, 0, by rw [h1, h2]⟩
 ·exact ⟨_, _, h1⟩
theorem own_block {w : World} {base e size : Nat} {v : Value} {n : Nat} {xs : List Value} (h : w.ownsRow base e size v n xs) {q : Nat} (hq : v.ownBlock = some q) : ∃ cur, w.heap[q]? = some (.cells cur e (0, 0)) := by
 rcases h.2 with ⟨rfl, _⟩ | ⟨g, cap, cur, rfl, _, hg, _⟩
 ·cases hq
 ·cases hq; exact ⟨cur, hg⟩
theorem own_lt2 {w : World} {base e size : Nat} {v : Value} {n : Nat} {xs : List Value} (h : w.ownsRow base e size v n xs) {q : Nat} (hq : v.ownBlock = some q) : q < w.heap.size := by
 obtain ⟨cur, hc⟩ := own_block h hq
 exact (Array.getElem?_eq_some_iff.1 hc).1
theorem own_types {w : World} {b b' e e' s s' : Nat} {v v' : Value} {n n' : Nat} {xs xs' : List Value} (h : w.ownsRow b e s v n xs) (h' : w.ownsRow b' e' s' v' n' xs') (hne : ¬ e = e') {q : Nat} (hq : v.ownBlock = some q) : ¬ v'.ownBlock = some q := fun hq' => by
 obtain ⟨c, h1⟩ := own_block h hq
 obtain ⟨c', h2⟩ := own_block h' hq'
 rw [h1] at h2
 cases h2
 exact hne rfl
theorem own_map {w : World} {base e size : Nat} {v : Value} {n : Nat} {xs : List Value} {b : Nat} {L : List KV} (h : w.ownsRow base e size v n xs) (hm : MapIs w b L) : ¬ v.ownBlock = some b := fun hq => by
 obtain ⟨c, h1⟩ := own_block h hq
 unfold MapIs at hm
 rw [h1] at hm
 cases hm

def lateB (st now : Int) : Bool := decide (60 ≤ now - st)
theorem late_all (st now : Int) (h0 : 0 ≤ st) (h3 : now ≤ 9223372036854775807) (h4 : st ≤ 9223372036854775807) (w : World) : Calls Tryz.prog 85 #[.int .i64 st, .int .i64 now] w fun e w' => e = .returned (.bool (lateB st now)) ∧ w = w' := by
 by_cases h : st ≤ now
 ·go_enter Tryz.func85, Tryz.ntmps85
  go_wp2
  go_ret
  exact ⟨by unfold lateB; rfl, rfl⟩
 ·go_enter Tryz.func85, Tryz.ntmps85
  go_wp2
  go_ret
  have e : lateB st now = false := by unfold lateB; simp; omega
  exact ⟨by rw [e]; rfl, rfl⟩
set_option maxRecDepth 100000 in
theorem expired_all (m : Spn) (now : Int) (h0 : 0 ≤ m.st) (h3 : now ≤ 9223372036854775807) (h4 : m.st ≤ 9223372036854775807) (w : World) : Calls Tryz.prog 40 #[aggS m, .int .i64 now] w fun e w' => e = .returned (.bool (lateB m.st now)) ∧ Kept (fun _ => False) w w' := by
 have L := Lib.hid (late_all m.st now h0 h3 h4)
 unfold aggS
 go_enter Tryz.func40, Tryz.ntmps40
 go_wp2_with (go_at_call 85; refine (L.out _).mono ?_; rintro e w4 ⟨rfl, rfl⟩)
 go_ret
 exact ⟨rfl, (Kept.refl _ w).alloc _⟩

/-- Keys, each seen once. -/
def seenV (K : List ByteArray) : List KV := K.map fun k => (k, .int .i64 1)
theorem idx_seen (k : ByteArray) : ∀ K : List ByteArray, (idxL k (seenV K)).isSome = decide (k ∈ K)
 | [] => by simp [seenV, idxL]
 | x :: t => by
  have ih := idx_seen k t
  unfold seenV at ih ⊢
  simp only [List.map_cons, idxL]
  by_cases e : k = x
  ·simp [e]
  ·simp only [e, if_false, Option.isSome_map, ih, List.mem_cons, false_or]
def oneN : Bool → Int | true => 1 | false => 0
theorem old_seen (k : ByteArray) (K : List ByteArray) : oldL k (.int .i64 0) (seenV K) = .int .i64 (oneN (decide (k ∈ K))) := by
 have h := idx_seen k K
 unfold oldL
 cases hi : idxL k (seenV K) with
 | none => rw [hi] at h; rw [← h]; rfl
 | some j =>
  rw [hi] at h; rw [← h]
  obtain ⟨p, hp, _⟩ := idxL_some hi
  have : p.2 = .int .i64 1 := by
   unfold seenV at hp
   rw [List.getElem?_map] at hp
   cases hk : K[j]? with
   | none => simp [hk] at hp
   | some y => simp [hk] at hp; rw [← hp]
  simp [hp, this, oneN]
theorem put_seen {k : ByteArray} {K : List ByteArray} (h : decide (k ∈ K) = false) : putK k (.int .i64 1) (seenV K) = seenV (K ++ [k]) := by
 have h2 := idx_seen k K
 rw [h] at h2
 unfold putK
 rw [h2]
 simp [seenV]
theorem look_seen {w : World} {b : Nat} {K : List ByteArray} (h : MapIs w b (seenV K)) (k : ByteArray) : (Instr.lookup 174 (.map (some b)) (.string k) false).run Tryz.prog w = .ok (.int .i64 (oneN (decide (k ∈ K)))) w := by
 have h2 := lookN h k
 rw [old_seen] at h2
 exact h2
theorem upd_seen {w : World} {b : Nat} {K : List ByteArray} (h : MapIs w b (seenV K)) {k : ByteArray} (hk : decide (k ∈ K) = false) : ∃ w', (Instr.mapUpdate 174 (.map (some b)) (.string k) (.int .i64 1)).run Tryz.prog w = .ok () w' ∧ MapIs w' b (seenV (K ++ [k])) ∧ Kept (fun q => q = b) w w' := by
 have h2 := putN h k (.int .i64 1)
 rw [put_seen hk] at h2
 refine ⟨_, h2, MapIs.set h.lt, ⟨rfl, rfl, rfl, by simp [setBlock], fun q hq hS => ?_⟩⟩
 simp only [setBlock]
 have : b ≠ q := fun e => hS e.symm
 simp [Array.getElem?_setIfInBounds_ne this]

/-- A span's key. -/
def keyS (m : Spn) : ByteArray := keyF m.tr m.id
/-- The spans of a list that are taken: none that is late, that was ahead, or that is there. -/
def takeR (now : Int) (oldB : ByteArray → Bool) : List Spn → List ByteArray → List Spn
 | [], _ => []
 | m :: t, K => match lateB m.st now || decide (keyS m ∈ K) || oldB (keyS m) with
  | true => takeR now oldB t K
  | false => m :: takeR now oldB t (K ++ [keyS m])
def cellsT : List Spn → List Value
 | [] => []
 | m :: t => cellsOfS m ++ cellsT t
theorem cellsT_append : ∀ a b, cellsT (a ++ b) = cellsT a ++ cellsT b
 | [], b => rfl
 | m :: t, b => by simp [cellsT, cellsT_append t b]

/-- What a round rests upon: the span, its cells, the keys that were seen, and what was taken. -/
structure Mid (w : World) (base ns g b : Nat) (m : Spn) (K : List ByteArray) (vo vc : Value) (O : List Spn) : Prop where
 span : SpanAt w ns m
 two : ∀ j u, (cellsOfS m)[j]? = some u → w.cell? ⟨g, j, none⟩ = some u
 map : MapIs w b (seenV K)
 out : w.ownsRow base 96 8 vo O.length (cellsS O)
 cells : w.ownsRow base 132 3 vc (2 * O.length) (cellsT O)
 far : ∀ q, vo.ownBlock = some q → ¬ q = g
theorem Mid.keptF {w w' : World} {base ns g b : Nat} {m : Spn} {K : List ByteArray} {vo vc : Value} {O : List Spn} (h : Mid w base ns g b m K vo vc O) (k : Kept (fun _ => False) w w') : Mid w' base ns g b m K vo vc O :=
 ⟨h.span.keptF k, fun j u hu => k.cell (h.two j u hu) (fun f => f), h.map.kept k (fun f => f), own_kept h.out k (fun _ _ f => f), own_kept h.cells k (fun _ _ f => f), h.far⟩
theorem cell_ne_map {w : World} {q j b : Nat} {u : Value} {L : List KV} (h : w.cell? ⟨q, j, none⟩ = some u) (hm : MapIs w b L) : ¬ q = b := fun e => by
 have := hm.not_cell (j := j)
 rw [← e, h] at this
 cases this
theorem Mid.seen {w w' : World} {base ns g b : Nat} {m : Spn} {K K' : List ByteArray} {vo vc : Value} {O : List Spn} (h : Mid w base ns g b m K vo vc O) (k : Kept (fun q => q = b) w w') (hm : MapIs w' b (seenV K')) : Mid w' base ns g b m K' vo vc O :=
 ⟨h.span.kept k (cell_ne_map (h.span 0 _ rfl) h.map), fun j u hu => k.cell (h.two j u hu) (cell_ne_map (h.two j u hu) h.map), hm, own_kept h.out k (fun _ hq e => own_map h.out h.map (e ▸ hq)), own_kept h.cells k (fun _ hq e => own_map h.cells h.map (e ▸ hq)), h.far⟩
theorem drop_step {L : List Spn} {i : Nat} {m : Spn} (h : L[i]? = some m) : m :: L.drop (i + 1) = L.drop i := by
 obtain ⟨hl, e⟩ := List.getElem?_eq_some_iff.1 h
 rw [← e]; exact (List.drop_eq_getElem_cons hl).symm
theorem inf111 : (Tryz.prog.info? 96).map (fun i => (i.zero, i.size, i.bytes)) = some (some (.agg #[.int .i64 0, .int .i64 0, .int .i64 0, .string ⟨#[]⟩, .string ⟨#[]⟩, .int .i64 0, .int .i64 0, .string ⟨#[]⟩]), 8, 88) := by kernel_rfl
theorem inf38 : (Tryz.prog.info? 132).map (fun i => (i.zero, i.size, i.bytes)) = some (some (.agg #[.string ⟨#[]⟩, .int .i64 0, .string ⟨#[]⟩]), 3, 40) := by kernel_rfl
end Go.Proofs.YthknocapablpaaaGreatDoor

/- rows.Take of spans that may be, by whatever is there. -/
namespace Go.Proofs.YthknocapablpaaaGreatDoor
set_option maxRecDepth 100000
open Go.RowKit Go.MapKept Go.Instr Go.ChangeMaps

def TakenAs (w : World) (now : Int) (oldB : ByteArray → Bool) (L : List Spn) (e : Ending) (w' : World) : Prop :=
 ∃ vo vc, e = .returned (.tuple #[vo, vc]) ∧ w'.ownsRow w.heap.size 96 8 vo (takeR now oldB L []).length (cellsS (takeR now oldB L [])) ∧ w'.ownsRow w.heap.size 132 3 vc (2 * (takeR now oldB L []).length) (cellsT (takeR now oldB L [])) ∧ Kept (fun _ => False) w w'
/-- A cell. -/
structure Ce where
 ke : ByteArray
 sq : Int
 va : ByteArray
 deriving Inhabited
def aggC (c : Ce) : Value := .agg #[.string c.ke, .int .i64 c.sq, .string c.va]

set_option maxHeartbeats 8000000 in
set_option maxRecDepth 100000 in
theorem take_rows {w : World} {p v : Value} {L : List Spn} (now : Int) (gc : ByteArray → Ce) (gb : ByteArray → Bool) (dr : Ce → Bool) (hr : ReadsS w v L) (hl : L.length ≤ 20) (hchk : ∀ m ∈ L, chkB m = true) (hnow : now ≤ 9223372036854775807)
  (G : ∀ w', Kept (fun _ => False) w w' → ∀ k, (∃ m ∈ L, keyS m = k) → Calls Tryz.prog 51 #[p, .string k] w' fun e w'' => e = .returned (.tuple #[aggC (gc k), .bool (gb k)]) ∧ Kept (fun _ => False) w' w'')
  (D : ∀ w' k, (∃ m ∈ L, keyS m = k) → gb k = true → Calls Tryz.prog 79 #[aggC (gc k), .int .i64 now] w' fun e w'' => e = .returned (.bool (dr (gc k))) ∧ Kept (fun _ => False) w' w'') :
  Calls Tryz.prog 50 #[.func (.func 51) #[p] #[], v, .int .i64 now] w (TakenAs w now (fun k => gb k && !dr (gc k)) L) := by
 obtain ⟨ao, cap, rfl, h⟩ := hr
 obtain ⟨i0, hi0, hz0, hz1, hz2⟩ := info_parts inf111
 obtain ⟨j0, hj0, hy0, hy1, hy2⟩ := info_parts inf38
 have HR := Lib.hid h
 have CHK := Lib.hid hchk
 have GG := Lib.hid G
 have DD := Lib.hid D
 have tt : ∀ {a b c : World}, Kept (fun _ => False) a b → Kept (fun _ => False) b c → Kept (fun _ => False) a c := fun h k => h.trans k (fun _ _ h => h) (fun _ _ h => h)
 have MK : ∀ W : World, (makeMap 174 none).run Tryz.prog W = .ok (.map (some W.heap.size)) (W.alloc (.map #[] 0)) := fun W => run_makeMap 230 W
 obtain ⟨n, hn⟩ : ∃ n, L.length = n := ⟨_, rfl⟩
 rw [hn] at hl ⊢
 have HN := Lib.hid hn
 clear h hchk G D hn
 unfold TakenAs
 obtain ⟨old, hold⟩ : ∃ old, (fun k => gb k && !dr (gc k)) = old := ⟨_, rfl⟩
 rw [hold]
 obtain ⟨T, hT⟩ : ∃ T, takeR now old L [] = T := ⟨_, rfl⟩
 rw [hT]
 have HO := Lib.hid hold
 have HT := Lib.hid hT
 clear hold hT
 go_enter Tryz.func50, Tryz.ntmps50
 go_wp2
 obtain ⟨b, hb⟩ : ∃ b, w.heap.size = b := ⟨_, rfl⟩
 have HB := Lib.hid hb
 rw [hb]
 go_loopg [20, 8, 9] n (fun gh t vo vc wr => ∃ (i : Nat) (O : List Spn) (K : List ByteArray), i + gh = n ∧ t = .int .i64 i ∧ O.length ≤ i ∧ Kept (fun _ => False) w wr ∧ MapIs wr b (seenV K) ∧ wr.ownsRow b 96 8 vo O.length (cellsS O) ∧ wr.ownsRow b 132 3 vc (2 * O.length) (cellsT O) ∧ O ++ takeR now old (L.drop i) K = T)
 case atStart => exact ⟨0, [], [], by omega, rfl, by simp, (Kept.refl _ _).alloc _, by rw [← HB.out]; exact heap_alloc_new w _, World.ownsRow_nil _ _ _ _, World.ownsRow_nil _ _ _ _, by rw [List.drop_zero, List.nil_append]; exact HT.out⟩
 case round =>
  obtain ⟨i, O, K, ji, rfl, oi, hK, hM, hO, hC, hT⟩ := hrel
  rename_i vo vc _
  have JI := Lib.hid ji
  have KW := Lib.hid hK
  have TT := Lib.hid hT
  have OI := Lib.hid oi
  obtain ⟨ov, oc, rfl⟩ := own_slice hO
  obtain ⟨cv, cc, rfl⟩ := own_slice hC
  have MM := Lib.hid hM
  have OO := Lib.hid hO
  have OC := Lib.hid hC
  clear ji hK hT oi hM hO hC
  by_cases hlt : i < n
  ·rcases HR.out with e0 | ⟨g0, o0, rfl, hc⟩
   ·have := HN.out; rw [e0] at this; simp at this; omega
   obtain ⟨m, hm⟩ : ∃ m, L[i]? = some m := ⟨_, List.getElem?_eq_getElem (by rw [HN.out]; exact hlt)⟩
   obtain ⟨q0, q1, q2, q3, q4, q5, q6, q7⟩ := ReadsS.at (fun j u hu => KW.out.cell (hc j u hu) (fun f => f)) hm
   have hB := CHK.out m (List.mem_of_getElem? hm)
   have gn := chk_num hB
   have MEM := Lib.hid (List.mem_of_getElem? hm)
   have C := Lib.hid (fun w => cells_good m w hB)
   have X := Lib.hid (expired_all m now (by omega) hnow (by omega))
   have DS := Lib.hid (drop_step hm)
   have i1 : (0 : Int) ≤ (i : Int) := by omega
   have i2 : (i : Int) < (n : Int) := by omega
   clear hc hm hB gn
   unfold aggS at C X
   obtain ⟨late, hlate⟩ : ∃ late, lateB m.st now = late := ⟨_, rfl⟩
   have LT := Lib.hid hlate
   rw [hlate] at X
   clear hlate
   go_wp2_with fail
   refine (C.out _).mono ?_
   rintro e w1 ⟨g, rfl, hg, h2, k1⟩
   have MID := Lib.hid (show Mid w1 b wr.heap.size g b m K (.slice ov O.length oc) (.slice cv (2 * O.length) cc) O from
    ⟨SpanAt.new.keptF k1, h2, (MM.out.kept ((Kept.refl (fun _ => False) wr).alloc _) (fun f => f)).kept k1 (fun f => f), own_kept (own_kept OO.out ((Kept.refl (fun _ => False) wr).alloc _) (fun _ _ f => f)) k1 (fun _ _ f => f), own_kept (own_kept OC.out ((Kept.refl (fun _ => False) wr).alloc _) (fun _ _ f => f)) k1 (fun _ _ f => f), fun q hq e => by have := own_lt2 OO.out hq; simp at hg; omega⟩)
   have K1 := Lib.hid (tt KW.out (tt ((Kept.refl _ _).alloc _) k1))
   obtain ⟨ns, hns⟩ : ∃ ns, wr.heap.size = ns := ⟨_, rfl⟩
   rw [hns] at MID ⊢
   clear hg h2 k1 q0 q1 q2 q3 q4 q5 q6 q7 MM OO OC hns
   have s0 : w1.cell? ⟨ns, 0, none⟩ = some (.int .i64 m.tr) := MID.out.span 0 _ rfl
   have s1 : w1.cell? ⟨ns, 1, none⟩ = some (.int .i64 m.id) := MID.out.span 1 _ rfl
   have s2 : w1.cell? ⟨ns, 2, none⟩ = some (.int .i64 m.pa) := MID.out.span 2 _ rfl
   have s3 : w1.cell? ⟨ns, 3, none⟩ = some (.string m.se) := MID.out.span 3 _ rfl
   have s4 : w1.cell? ⟨ns, 4, none⟩ = some (.string m.ho) := MID.out.span 4 _ rfl
   have s5 : w1.cell? ⟨ns, 5, none⟩ = some (.int .i64 m.st) := MID.out.span 5 _ rfl
   have s6 : w1.cell? ⟨ns, 6, none⟩ = some (.int .i64 m.du) := MID.out.span 6 _ rfl
   have s7 : w1.cell? ⟨ns, 7, none⟩ = some (.string m.no) := MID.out.span 7 _ rfl
   go_wp2_with fail
   refine (X.out _).mono ?_
   rintro e w2 ⟨rfl, k2⟩
   have M2 := Lib.hid (MID.out.keptF k2)
   have K2 := Lib.hid (tt K1.out k2)
   clear k2 s0 s1 s2 s3 s4 s5 s6 s7 MID K1 C X
   cases late with
   | true =>
    go_wp2
    go_roundg (n - i - 1)
    case measure => have := JI.out; omega
    case rel =>
     have e := TT.out
     rw [← DS.out, takeR, LT.out, Bool.true_or, Bool.true_or] at e
     exact ⟨i + 1, O, K, by have := JI.out; omega, by go_num, by have := OI.out; omega, K2.out, M2.out.map, M2.out.out, M2.out.cells, e⟩
   | false =>
    obtain ⟨kk, hkk⟩ : ∃ kk, keyF m.tr m.id = kk := ⟨_, rfl⟩
    have KK := Lib.hid hkk
    have c0 : w2.cell? ⟨g, 0, none⟩ = some (.string kk) := by rw [← hkk]; exact M2.out.two 0 _ rfl
    have LK := look_seen M2.out.map kk
    obtain ⟨sn, hsn⟩ : ∃ sn, decide (kk ∈ K) = sn := ⟨_, rfl⟩
    have SN := Lib.hid hsn
    rw [hsn] at LK
    clear hsn hkk
    cases sn with
    | true =>
     unfold oneN at LK
     go_wp2
     go_roundg (n - i - 1)
     case measure => have := JI.out; omega
     case rel =>
      have e := TT.out
      rw [← DS.out, takeR, LT.out, show keyS m = kk from KK.out, SN.out, Bool.or_true, Bool.true_or] at e
      exact ⟨i + 1, O, K, by have := JI.out; omega, by go_num, by have := OI.out; omega, K2.out, M2.out.map, M2.out.out, M2.out.cells, e⟩
    | false =>
     unfold oneN at LK
     have GC := Lib.hid (GG.out w2 K2.out kk ⟨m, MEM.out, KK.out⟩)
     unfold aggC at GC
     obtain ⟨gk, hgk⟩ : ∃ gk, gb kk = gk := ⟨_, rfl⟩
     have GK := Lib.hid hgk
     rw [hgk] at GC
     clear hgk
     cases gk with
     | false =>
      go_upto_region 11 with (go_at_call 51; refine GC.out.mono ?_; rintro e w3 ⟨rfl, k3⟩)
      have M3 := fun o => (M2.out.keptF k3).keptF ((Kept.refl (fun _ => False) w3).alloc o)
      have K3 := fun o => tt K2.out (tt k3 ((Kept.refl (fun _ => False) w3).alloc o))
      generalize hW4 : w3.alloc _ = W4
      have M4 := Lib.hid (hW4 ▸ M3 _)
      have K4 := Lib.hid (hW4 ▸ K3 _)
      clear hW4 M3 K3 k3 c0 LK M2 K2 GC
      have c0 : W4.cell? ⟨g, 0, none⟩ = some (.string kk) := by rw [← KK.out]; exact M4.out.two 0 _ rfl
      have LK := look_seen M4.out.map kk
      rw [SN.out] at LK
      unfold oneN at LK
      obtain ⟨W5, hU, mU, kU⟩ := upd_seen M4.out.map SN.out
      have M5 := Lib.hid (M4.out.seen kU mU)
      have K5 := Lib.hid (show Kept (fun _ => False) w W5 from K4.out.trans kU (fun _ _ f => f) (fun q hq e => by have := HB.out; omega))
      have s0 : W5.cell? ⟨ns, 0, none⟩ = some (.int .i64 m.tr) := M5.out.span 0 _ rfl
      have s1 : W5.cell? ⟨ns, 1, none⟩ = some (.int .i64 m.id) := M5.out.span 1 _ rfl
      have s2 : W5.cell? ⟨ns, 2, none⟩ = some (.int .i64 m.pa) := M5.out.span 2 _ rfl
      have s3 : W5.cell? ⟨ns, 3, none⟩ = some (.string m.se) := M5.out.span 3 _ rfl
      have s4 : W5.cell? ⟨ns, 4, none⟩ = some (.string m.ho) := M5.out.span 4 _ rfl
      have s5 : W5.cell? ⟨ns, 5, none⟩ = some (.int .i64 m.st) := M5.out.span 5 _ rfl
      have s6 : W5.cell? ⟨ns, 6, none⟩ = some (.int .i64 m.du) := M5.out.span 6 _ rfl
      have s7 : W5.cell? ⟨ns, 7, none⟩ = some (.string m.no) := M5.out.span 7 _ rfl
      clear mU kU
      go_wp2_with (at_builtin; refine wpList_append_own _ rfl _ _ 30 rfl b 96 i0 _ 8 88 Tryz.underlying30 hi0 hz0 hz1 hz2 rfl (by decide) _ _ _ rfl (own_kept M5.out.out ((Kept.refl (fun _ => False) W5).alloc _) (fun _ _ f => f)) ⟨W5.heap.size, 0, none⟩ 1 1 m.cells rfl rfl (World.news_of_block (heap_alloc_new W5 _)) ?qa ?qb ?qc ?qd ?_)
      case qa => intro u hu; simp [Spn.cells] at hu; rcases hu with rfl | rfl | rfl | rfl | rfl | rfl | rfl | rfl <;> rfl
      case qb => unfold maxLen; have := OI.out; omega
      case qc => have := OI.out; omega
      case qd => have := K5.out.size; have := HB.out; simp; omega
      intro v' w8 hown hgrow hnil
      obtain ⟨a8, cap8, rfl⟩ := own_slice hown
      have kA : Kept (fun _ => False) W5 (W5.alloc (.cells #[.int .i64 m.tr, .int .i64 m.id, .int .i64 m.pa, .string m.se, .string m.ho, .int .i64 m.st, .int .i64 m.du, .string m.no] 96)) := (Kept.refl _ _).alloc _
      have kG := grown_kept hgrow
      have O8 := Lib.hid hown
      have T8 := Lib.hid (show ∀ j u, (cellsOfS m)[j]? = some u → w8.cell? ⟨g, j, none⟩ = some u from fun j u hu => kG.cell (kA.cell (M5.out.two j u hu) (fun f => f)) (fun e => M5.out.far g e rfl))
      have N8 := Lib.hid (show ∀ j u, (cellsOfS m)[j]? = some u → w8.cell? ((⟨g, 0, none⟩ : Addr).add j) = some u from fun j u hu => by
       cases j with
       | zero => simpa [Addr.add] using T8.out 0 u hu
       | succ j => simpa [Addr.add] using T8.out (j + 1) u hu)
      have C8 := Lib.hid (own_kept (own_kept M5.out.cells kA (fun _ _ f => f)) kG (fun q hq e => own_types M5.out.cells M5.out.out (by decide) hq e))
      have m8 := Lib.hid ((M5.out.map.kept kA (fun f => f)).kept kG (fun e => own_map M5.out.out M5.out.map e))
      have K8 := Lib.hid (show Kept (fun _ => False) w w8 from (tt K5.out kA).trans kG (fun _ _ f => f) (fun q hq e => by have := own_from M5.out.out e; have := HB.out; omega))
      clear kA kG hown hgrow hnil s0 s1 s2 s3 s4 s5 s6 s7 hU LK c0 M5 K5
      go_wp2_with (at_builtin; refine wpList_append_own _ rfl _ _ 65 rfl b 132 j0 _ 3 40 Tryz.underlying65 hj0 hy0 hy1 hy2 rfl (by decide) _ _ _ rfl C8.out ⟨g, 0, none⟩ 2 2 (cellsOfS m) rfl rfl N8.out ?qa ?qb ?qc ?qd ?_)
      case qa => intro u hu; simp [cellsOfS] at hu; rcases hu with rfl | rfl | rfl | rfl | rfl | rfl <;> rfl
      case qb => unfold maxLen; have := OI.out; omega
      case qc => have := OI.out; omega
      case qd => have := K8.out.size; have := HB.out; omega
      intro v'' w9 hown hgrow hnil
      obtain ⟨a9, cap9, rfl⟩ := own_slice hown
      have kG := grown_kept hgrow
      have C9 := Lib.hid hown
      have O9 := Lib.hid (own_kept O8.out kG (fun q hq e => own_types O8.out C8.out (by decide) hq e))
      have m9 := Lib.hid (m8.out.kept kG (fun e => own_map C8.out m8.out e))
      have K9 := Lib.hid (show Kept (fun _ => False) w w9 from K8.out.trans kG (fun _ _ f => f) (fun q hq e => by have := own_from C8.out e; have := HB.out; omega))
      clear kG hown hgrow hnil
      go_wp2
      go_roundg (n - i - 1)
      case measure => have := JI.out; omega
      case rel =>
       have e := TT.out
       rw [← DS.out, takeR, LT.out, show keyS m = kk from KK.out, SN.out, show old kk = false from by rw [← HO.out]; simp [GK.out]] at e
       simp only [Bool.or_self] at e
       have l1 : (O ++ [m]).length = O.length + 1 := by simp
       have l2 : cellsS (O ++ [m]) = cellsS O ++ m.cells := by rw [cellsS_append]; simp [cellsS]
       have l3 : cellsT (O ++ [m]) = cellsT O ++ cellsOfS m := by rw [cellsT_append]; simp [cellsT]
       have l4 : 2 * (O ++ [m]).length = 2 * O.length + 2 := by rw [l1]; omega
       exact ⟨i + 1, O ++ [m], K ++ [kk], by have := JI.out; omega, by go_num, by have := OI.out; omega, K9.out, m9.out, by rw [l1, l2]; exact O9.out, by rw [l4, l3]; exact C9.out, by rw [List.append_assoc]; exact e⟩
     | true =>
      obtain ⟨dk, hdk⟩ : ∃ dk, dr (gc kk) = dk := ⟨_, rfl⟩
      have DK := Lib.hid hdk
      have DC := Lib.hid (fun w' => DD.out w' kk ⟨m, MEM.out, KK.out⟩ GK.out)
      rw [hdk] at DC
      unfold aggC at DC
      clear hdk
      cases dk with
      | false =>
       go_wp2_with (first | (go_at_call 51; refine GC.out.mono ?_; rintro e w3 ⟨rfl, k3⟩) | (go_at_call 79; refine (DC.out _).mono ?_; rintro e w4 ⟨rfl, k4⟩))
       have kq := tt k3 (tt ((Kept.refl (fun _ => False) w3).alloc _) k4)
       have M4 := M2.out.keptF kq
       have K4 := tt K2.out kq
       go_roundg (n - i - 1)
       case measure => have := JI.out; omega
       case rel =>
        have e := TT.out
        rw [← DS.out, takeR, LT.out, show keyS m = kk from KK.out, SN.out, show old kk = true from by rw [← HO.out]; simp [GK.out, DK.out], Bool.or_true] at e
        exact ⟨i + 1, O, K, by have := JI.out; omega, by go_num, by have := OI.out; omega, K4, M4.map, M4.out, M4.cells, e⟩
      | true =>
       go_upto_region 11 with (first | (go_at_call 51; refine GC.out.mono ?_; rintro e w3 ⟨rfl, k3⟩) | (go_at_call 79; refine (DC.out _).mono ?_; rintro e w4 ⟨rfl, k4⟩))
       have kq := tt k3 (tt ((Kept.refl (fun _ => False) w3).alloc _) k4)
       have M4 := Lib.hid (M2.out.keptF kq)
       have K4 := Lib.hid (tt K2.out kq)
       clear kq k3 k4 c0 LK M2 K2 GC DC
       have c0 : w4.cell? ⟨g, 0, none⟩ = some (.string kk) := by rw [← KK.out]; exact M4.out.two 0 _ rfl
       have LK := look_seen M4.out.map kk
       rw [SN.out] at LK
       unfold oneN at LK
       obtain ⟨W5, hU, mU, kU⟩ := upd_seen M4.out.map SN.out
       have M5 := Lib.hid (M4.out.seen kU mU)
       have K5 := Lib.hid (show Kept (fun _ => False) w W5 from K4.out.trans kU (fun _ _ f => f) (fun q hq e => by have := HB.out; omega))
       have s0 : W5.cell? ⟨ns, 0, none⟩ = some (.int .i64 m.tr) := M5.out.span 0 _ rfl
       have s1 : W5.cell? ⟨ns, 1, none⟩ = some (.int .i64 m.id) := M5.out.span 1 _ rfl
       have s2 : W5.cell? ⟨ns, 2, none⟩ = some (.int .i64 m.pa) := M5.out.span 2 _ rfl
       have s3 : W5.cell? ⟨ns, 3, none⟩ = some (.string m.se) := M5.out.span 3 _ rfl
       have s4 : W5.cell? ⟨ns, 4, none⟩ = some (.string m.ho) := M5.out.span 4 _ rfl
       have s5 : W5.cell? ⟨ns, 5, none⟩ = some (.int .i64 m.st) := M5.out.span 5 _ rfl
       have s6 : W5.cell? ⟨ns, 6, none⟩ = some (.int .i64 m.du) := M5.out.span 6 _ rfl
       have s7 : W5.cell? ⟨ns, 7, none⟩ = some (.string m.no) := M5.out.span 7 _ rfl
       clear mU kU
       go_wp2_with (at_builtin; refine wpList_append_own _ rfl _ _ 30 rfl b 96 i0 _ 8 88 Tryz.underlying30 hi0 hz0 hz1 hz2 rfl (by decide) _ _ _ rfl (own_kept M5.out.out ((Kept.refl (fun _ => False) W5).alloc _) (fun _ _ f => f)) ⟨W5.heap.size, 0, none⟩ 1 1 m.cells rfl rfl (World.news_of_block (heap_alloc_new W5 _)) ?qa ?qb ?qc ?qd ?_)
       case qa => intro u hu; simp [Spn.cells] at hu; rcases hu with rfl | rfl | rfl | rfl | rfl | rfl | rfl | rfl <;> rfl
       case qb => unfold maxLen; have := OI.out; omega
       case qc => have := OI.out; omega
       case qd => have := K5.out.size; have := HB.out; simp; omega
       intro v' w8 hown hgrow hnil
       obtain ⟨a8, cap8, rfl⟩ := own_slice hown
       have kA : Kept (fun _ => False) W5 (W5.alloc (.cells #[.int .i64 m.tr, .int .i64 m.id, .int .i64 m.pa, .string m.se, .string m.ho, .int .i64 m.st, .int .i64 m.du, .string m.no] 96)) := (Kept.refl _ _).alloc _
       have kG := grown_kept hgrow
       have O8 := Lib.hid hown
       have T8 := Lib.hid (show ∀ j u, (cellsOfS m)[j]? = some u → w8.cell? ⟨g, j, none⟩ = some u from fun j u hu => kG.cell (kA.cell (M5.out.two j u hu) (fun f => f)) (fun e => M5.out.far g e rfl))
       have N8 := Lib.hid (show ∀ j u, (cellsOfS m)[j]? = some u → w8.cell? ((⟨g, 0, none⟩ : Addr).add j) = some u from fun j u hu => by
        cases j with
        | zero => simpa [Addr.add] using T8.out 0 u hu
        | succ j => simpa [Addr.add] using T8.out (j + 1) u hu)
       have C8 := Lib.hid (own_kept (own_kept M5.out.cells kA (fun _ _ f => f)) kG (fun q hq e => own_types M5.out.cells M5.out.out (by decide) hq e))
       have m8 := Lib.hid ((M5.out.map.kept kA (fun f => f)).kept kG (fun e => own_map M5.out.out M5.out.map e))
       have K8 := Lib.hid (show Kept (fun _ => False) w w8 from (tt K5.out kA).trans kG (fun _ _ f => f) (fun q hq e => by have := own_from M5.out.out e; have := HB.out; omega))
       clear kA kG hown hgrow hnil s0 s1 s2 s3 s4 s5 s6 s7 hU LK c0 M5 K5
       go_wp2_with (at_builtin; refine wpList_append_own _ rfl _ _ 65 rfl b 132 j0 _ 3 40 Tryz.underlying65 hj0 hy0 hy1 hy2 rfl (by decide) _ _ _ rfl C8.out ⟨g, 0, none⟩ 2 2 (cellsOfS m) rfl rfl N8.out ?qa ?qb ?qc ?qd ?_)
       case qa => intro u hu; simp [cellsOfS] at hu; rcases hu with rfl | rfl | rfl | rfl | rfl | rfl <;> rfl
       case qb => unfold maxLen; have := OI.out; omega
       case qc => have := OI.out; omega
       case qd => have := K8.out.size; have := HB.out; omega
       intro v'' w9 hown hgrow hnil
       obtain ⟨a9, cap9, rfl⟩ := own_slice hown
       have kG := grown_kept hgrow
       have C9 := Lib.hid hown
       have O9 := Lib.hid (own_kept O8.out kG (fun q hq e => own_types O8.out C8.out (by decide) hq e))
       have m9 := Lib.hid (m8.out.kept kG (fun e => own_map C8.out m8.out e))
       have K9 := Lib.hid (show Kept (fun _ => False) w w9 from K8.out.trans kG (fun _ _ f => f) (fun q hq e => by have := own_from C8.out e; have := HB.out; omega))
       clear kG hown hgrow hnil
       go_wp2
       go_roundg (n - i - 1)
       case measure => have := JI.out; omega
       case rel =>
        have e := TT.out
        rw [← DS.out, takeR, LT.out, show keyS m = kk from KK.out, SN.out, show old kk = false from by rw [← HO.out]; simp [GK.out, DK.out]] at e
        simp only [Bool.or_self] at e
        have l1 : (O ++ [m]).length = O.length + 1 := by simp
        have l2 : cellsS (O ++ [m]) = cellsS O ++ m.cells := by rw [cellsS_append]; simp [cellsS]
        have l3 : cellsT (O ++ [m]) = cellsT O ++ cellsOfS m := by rw [cellsT_append]; simp [cellsT]
        have l4 : 2 * (O ++ [m]).length = 2 * O.length + 2 := by rw [l1]; omega
        exact ⟨i + 1, O ++ [m], K ++ [kk], by have := JI.out; omega, by go_num, by have := OI.out; omega, K9.out, m9.out, by rw [l1, l2]; exact O9.out, by rw [l4, l3]; exact C9.out, by rw [List.append_assoc]; exact e⟩
  ·have e3 : ¬ (i : Int) < (n : Int) := by omega
   go_wp2
   go_ret2
   have hin : i = n := by have := JI.out; omega
   have e : T = O := by
    have h := TT.out
    rw [hin, ← HN.out, List.drop_length] at h
    rw [← h]
    simp [takeR]
   rw [e]
   exact ⟨_, _, rfl, OO.out, OC.out, KW.out⟩
end Go.Proofs.YthknocapablpaaaGreatDoor

/- tablets.Range of a whole tablet without tables. -/
namespace Go.Proofs.YthknocapablpaaaGreatDoor
open Go.RowKit Go.Lib Go.Eng
set_option maxRecDepth 100000
set_option maxHeartbeats 8000000 in
theorem cut_st {w : World} {m : Nat} : Calls Tryz.prog 130 #[.agg #[.string ⟨#[]⟩, .string ⟨#[]⟩, .pointer (some ⟨m, 0, none⟩), .slice none 0 0], .string ⟨#[]⟩, .string ⟨#[]⟩] w fun e w' => e = .returned (.tuple #[.string ⟨#[]⟩, .string ⟨#[]⟩, .bool true]) ∧ Kept (fun _ => False) w w' := by
 obtain ⟨rb, hrb⟩ : ∃ q, w.heap.size = q := ⟨_, rfl⟩
 obtain ⟨W0, hW0⟩ : ∃ W, w.alloc (Obj.cells #[.string ⟨#[]⟩, .string ⟨#[]⟩, .pointer (some ⟨m, 0, none⟩), .slice none 0 0] 143) = W := ⟨_, rfl⟩
 have k0 : Kept (fun _ => False) w W0 := by rw [← hW0]; exact (Kept.refl _ _).alloc _
 have y0 : W0.cell? ⟨rb, 0, none⟩ = some (.string ⟨#[]⟩) := by rw [← hW0, ← hrb]; simp [go_sem]
 have y1 : W0.cell? ⟨rb, 1, none⟩ = some (.string ⟨#[]⟩) := by rw [← hW0, ← hrb]; simp [go_sem]
 have hmx : ∀ w, (Builtin.max_ #[9, 9] 9 #[.string ⟨#[]⟩, .string ⟨#[]⟩]).run Tryz.prog w = .ok (.string ⟨#[]⟩) w := fun _ => by kernel_rfl
 go_enter Tryz.func130, Tryz.ntmps130
 go_wp2_with fail
 go_ret3
 exact ⟨rfl, k0⟩
theorem own_base {w : World} {b b' e size : Nat} {v : Value} {n : Nat} {xs : List Value} (h : w.ownsRow b e size v n xs) (hb : b' ≤ b) : w.ownsRow b' e size v n xs :=
 ⟨h.1, h.2.imp (fun h => h) (fun ⟨g, cap, cur, e, h1, h2⟩ => ⟨g, cap, cur, e, Nat.le_trans hb h1, h2⟩)⟩
theorem bytesLess_nil (x : List UInt8) : Op.bytesLess x [] = false := by cases x <;> simp [Op.bytesLess]
theorem mg_cells : ∀ (L : List Cel), Mg.cellsC L = cellsC L
 | [] => rfl
 | c :: t => by rw [Mg.cellsC, cellsC, mg_cells t]; rfl
theorem bestUp_one {l : List Cel} (h : 0 < l.length) : Mg.bestUp [l] [l].length = some 0 := by
 show Mg.bestUp [l] (0 + 1) = some 0
 rw [Mg.bestUp]
 have : Mg.nth [l] 0 = l := rfl
 rw [this, if_pos h]
 rfl
theorem mergeF_one : ∀ (l : List Cel), Mg.mergeF l.length [l] = l
 | [] => rfl
 | c :: t => by
  show Mg.mergeF (t.length + 1) [c :: t] = c :: t
  rw [Mg.mergeF, bestUp_one (by simp)]
  show Mg.hdR [c :: t] 0 :: Mg.mergeF t.length ([c :: t].set 0 (Mg.nth [c :: t] 0).tail) = c :: t
  have h1 : Mg.hdR [c :: t] 0 = c := rfl
  have h2 : ([c :: t].set 0 (Mg.nth [c :: t] 0).tail) = [t] := rfl
  rw [h1, h2, mergeF_one t]
theorem mergeL_one (l : List Cel) : Mg.mergeL [l] = l := by
 unfold Mg.mergeL Mg.total
 simp only [List.map_cons, List.map_nil, List.sum_cons, List.sum_nil, Nat.add_zero]
 exact mergeF_one l
theorem mg_may {c : Cel} (h : mayC c = true) : Mg.mayC c = true := by
 unfold mayC at h
 unfold Mg.mayC
 simp only [Bool.and_eq_true, decide_eq_true_eq] at h ⊢
 refine ⟨⟨⟨?_, h.1.2⟩, h.2.1⟩, h.2.2⟩
 refine Nat.pos_of_ne_zero fun e => h.1.1 ?_
 exact ByteArray.ext (Array.eq_empty_of_size_eq_zero e)
theorem sortedB_of {l : List Cel} (h : SortedC l) (hm : ∀ c ∈ l, mayC c = true) : Mg.sortedB l = true := by
 rw [Mg.sortedB_true]
 intro k hk
 unfold Mg.goodAt
 have h1 := Mg.nth_get l hk
 have h2 : Mg.mayC (Mg.nth l k) = true := mg_may (hm _ (List.mem_of_getElem? h1))
 rw [h2, Bool.true_and]
 by_cases h0 : k = 0
 ·simp [h0]
 ·have h3 := Mg.nth_get l (show k - 1 < l.length by omega)
  have h4 := List.pairwise_iff_getElem.1 h (k - 1) k (by omega) hk (by omega)
  rw [List.getElem?_eq_getElem hk] at h1
  rw [List.getElem?_eq_getElem (show k - 1 < l.length by omega)] at h3
  rw [Option.some.inj h1, Option.some.inj h3] at h4
  simp [h0, (Mg.aheadC_iff _ _).2 h4]
set_option maxHeartbeats 8000000 in
theorem trange_any {S : Sto} {own : Nat → Prop} {w : World} {F : List Fl} {n t : Nat} {ps : List Pg} {q : Int} (h : StAt S own w F n t ps q) (hl : (allP ps).length ≤ 1000) (hm : ∀ c ∈ allP ps, mayC c = true) :
  Calls Tryz.prog 70 #[.agg #[.string ⟨#[]⟩, .string ⟨#[]⟩, .pointer (some ⟨S.m, 0, none⟩), .slice none 0 0], .string ⟨#[]⟩, .string ⟨#[]⟩] w fun e w' => (∃ u, e = .returned (.tuple #[u, .int .i64 0]) ∧ w'.ownsRow w.heap.size 132 3 u (Mg.firstF (allP ps)).length (cellsC (Mg.firstF (allP ps)))) ∧ Kept (fun _ => False) w w' := by
 obtain ⟨rb, hrb⟩ : ∃ q, w.heap.size = q := ⟨_, rfl⟩
 obtain ⟨W0, hW0⟩ : ∃ W, w.alloc (Obj.cells #[.string ⟨#[]⟩, .string ⟨#[]⟩, .pointer (some ⟨S.m, 0, none⟩), .slice none 0 0] 143) = W := ⟨_, rfl⟩
 have k0 : Kept (fun _ => False) w W0 := by rw [← hW0]; exact (Kept.refl _ _).alloc _
 have y0 : W0.cell? ⟨rb, 0, none⟩ = some (.string ⟨#[]⟩) := by rw [← hW0, ← hrb]; simp [go_sem]
 have y1 : W0.cell? ⟨rb, 1, none⟩ = some (.string ⟨#[]⟩) := by rw [← hW0, ← hrb]; simp [go_sem]
 have y2 : W0.cell? ⟨rb, 2, none⟩ = some (.pointer (some ⟨S.m, 0, none⟩)) := by rw [← hW0, ← hrb]; simp [go_sem]
 have y3 : W0.cell? ⟨rb, 3, none⟩ = some (.slice none 0 0) := by rw [← hW0, ← hrb]; simp [go_sem]
 have Y2 := Lib.hid y2
 have Y3 := Lib.hid y3
 have K0 := Lib.hid k0
 have RG := Lib.hid (fun (W : World) (K : Kept (fun _ => False) w W) => (by
   obtain ⟨ao, cap, hc, hp⟩ := (h.keptF K).mem.cellR
   have := mrange_any (a := ⟨#[]⟩) (b := ⟨#[]⟩) hc hp ((h.keptF K).mem.pagesOk h.srt) (by have := h.mem.small; omega)
   have e : (allP ps).filter (inK ⟨#[]⟩ ⟨#[]⟩) = allP ps := List.filter_eq_self.2 (fun c _ => by simp [inK, kway, sLt, bytesLess_nil])
   rw [e] at this
   exact this))
 have SB := Lib.hid (sortedB_of h.srt hm)
 clear h k0 hm
 go_enter Tryz.func70, Tryz.ntmps70
 go_wp2_with (first
  | (go_at_call 130; refine cut_st.mono ?_; rintro e w1 ⟨rfl, k1⟩; (have K1 := Lib.hid (K0.out.trans k1 (T := fun _ => False) (fun _ _ f => f) (fun _ _ f => f))); (have z2 := k1.cell Y2.out (fun f => f)); (have z3 := k1.cell Y3.out (fun f => f)); clear k1 y0 y1 y2 y3)
  | (go_at_call 131; refine (RG.out _ K1.out).mono ?_; rintro e w2 ⟨⟨v, rfl, hv⟩, k2⟩; (have K2 := Lib.hid (K1.out.trans k2 (T := fun _ => False) (fun _ _ f => f) (fun _ _ f => f))); (have HV := Lib.hid hv); obtain ⟨va, vc, rfl⟩ := own_slice hv; (have x3 := k2.cell z3 (fun f => f)); (have xl := World.block_lt_of_cell? _ _ x3); clear k2 hv z2 z3))
 obtain ⟨v, hv⟩ : ∃ v, Value.slice va (allP ps).length vc = v := ⟨_, rfl⟩
 have RV := Mg.ReadsC.of_row (mg_cells (allP ps) ▸ HV.out)
 have k3 : Kept (fun _ => False) w2 (w2.alloc (Obj.cells #[Value.slice va (allP ps).length vc] 65)) := (Kept.refl _ _).alloc _
 have RR := Lib.hid (show Mg.ReadsR (w2.alloc (Obj.cells #[Value.slice va (allP ps).length vc] 65)) (.slice (some ⟨w2.heap.size, 0, none⟩) 1 1) [allP ps] from ⟨_, 1, rfl, .inr ⟨_, 0, rfl, fun k R hk => by
  match k, hk with
  | 0, hk =>
   simp at hk
   subst hk
   exact ⟨Value.slice va (allP ps).length vc, by simp [go_sem], RV.keptF k3⟩
  | k + 1, hk => simp at hk⟩⟩)
 have K3 := Lib.hid (K2.out.trans k3 (T := fun _ => False) (fun _ _ f => f) (fun _ _ f => f))
 clear hv RV k3
 refine wp_loop_rounds 1 ?_
 rw [rounds_succ]
 go_wp2_with (go_at_call 133; refine (Mg.newest_any _ _ [allP ps] RR.out (by simp) (by intro R hR; simp at hR; subst hR; exact hl) (by simpa [Mg.total] using hl)).mono ?_; rintro e w4 ⟨k4, ⟨h4, rfl⟩ | ⟨h4, u, rfl, hu⟩⟩)
 ·simp [SB.out] at h4
 ·rw [mergeL_one, mg_cells] at hu
  go_ret2
  refine ⟨⟨u, rfl, ?_⟩, K3.out.trans k4 (fun _ _ f => f) (fun _ _ f => f)⟩
  exact own_base hu (Nat.le_trans K3.out.size (Nat.le_refl _))
end Go.Proofs.YthknocapablpaaaGreatDoor

/- store.Range of all. -/
namespace Go.Proofs.YthknocapablpaaaGreatDoor
open Go.RowKit Go.Lib Go.Eng
set_option maxRecDepth 100000
theorem app_nil (w : World) : (Builtin.append_ #[65, 65] 65 #[.slice none 0 0, .slice none 0 0]).run Tryz.prog w = .ok (.slice none 0 0) w := by kernel_rfl
/-- Behind nothing a row of cells. -/
theorem app_row {w : World} {b : Nat} {v : Value} {L : List Cel} (h : w.ownsRow b 132 3 v L.length (cellsC L)) (hl : L.length ≤ 10000) (hb : b ≤ w.heap.size) :
  ∃ v' w', (Builtin.append_ #[65, 65] 65 #[.slice none 0 0, v]).run Tryz.prog w = .ok v' w' ∧ w'.ownsRow b 132 3 v' L.length (cellsC L) ∧ Kept (fun _ => False) w w' := by
 obtain ⟨i0, hi0, z0, s0, b0⟩ := info_132
 rcases row_form h with ⟨rfl, h0⟩ | ⟨g, cap, rfl, h1, h2, h3, h4⟩
 ·exact ⟨_, _, app_nil w, h, Kept.refl _ _⟩
 ·obtain ⟨v', w', hr, r1, r2, _, r4⟩ := run_append_own_at (P := Tryz.prog) w b 65 65 132 i0 _ 3 40 Tryz.underlying65 hi0 z0 s0 b0 rfl (by decide) _ 0 [] (World.ownsRow_nil _ _ _ _) ⟨g, 0, none⟩ L.length cap (cellsC L) (cellsC_length L) (fun j u hj => by
   rw [add_mid, Nat.zero_add]
   exact h4 j u hj) (cellsC_one L) (by unfold maxLen; omega) (by omega) hb
  rw [Nat.zero_add, List.nil_append] at r1
  refine ⟨v', w', hr, r1, (grown_kept r2).mono (fun k _ e => by simp [Value.ownBlock] at e)⟩
set_option maxHeartbeats 8000000 in
theorem srange_any {S : Sto} {own : Nat → Prop} {w : World} {F : List Fl} {n t : Nat} {ps : List Pg} {q : Int} (h : StAt S own w F n t ps q) (hl : (allP ps).length ≤ 1000) (hm : ∀ c ∈ allP ps, mayC c = true) :
  Calls Tryz.prog 26 #[.pointer (some ⟨S.s, 0, none⟩), .string ⟨#[]⟩, .string ⟨#[]⟩] w fun e w' => (∃ u, e = .returned (.tuple #[u, .int .i64 0]) ∧ w'.ownsRow w.heap.size 132 3 u (Mg.firstF (allP ps)).length (cellsC (Mg.firstF (allP ps)))) ∧ Kept (fun _ => False) w w' := by
 obtain ⟨i0, hi0, z0, s0, b0⟩ := info_132
 have H := Lib.hid h
 have SA := Lib.hid (sask_any h)
 have TB := Lib.hid (fun (W : World) (K : Kept (fun _ => False) w W) => tablet_any (h.keptF K))
 have TR := Lib.hid (fun (W : World) (K : Kept (fun _ => False) w W) => trange_any (h.keptF K) hl hm)
 have FL := Lib.hid (Nat.le_trans (Mg.firstF_length (allP ps)) hl)
 have c3 := h.c3
 obtain ⟨R, hR⟩ : ∃ R, Mg.firstF (allP ps) = R := ⟨_, rfl⟩
 rw [hR] at TR FL ⊢
 obtain ⟨s, d, mb, j, gm, m, tb, o, fm, cm⟩ := S
 simp only at c3 SA TB TR ⊢
 clear h hm hl hR
 go_enter Tryz.func26, Tryz.ntmps26
 go_wp2_with (first
  | (go_at_call 69; refine SA.out.mono ?_; rintro e w1 ⟨rfl, k1⟩; (have K1 := Lib.hid k1); (have x3 := k1.cell c3 (fun f => f)); clear k1 c3))
 refine wp_loop_rounds 2 ?_
 rw [rounds_succ]
 go_wp2_with (first
  | (go_at_call 71; refine (TB.out _ K1.out).mono ?_; rintro e w2 ⟨rfl, k2⟩; (have K2 := Lib.hid (K1.out.trans k2 (T := fun _ => False) (fun _ _ f => f) (fun _ _ f => f))); clear k2)
  | (go_at_call 70; refine (TR.out _ K2.out).mono ?_; rintro e w3 ⟨⟨u, rfl, hu⟩, k3⟩; (have K3 := Lib.hid (K2.out.trans k3 (T := fun _ => False) (fun _ _ f => f) (fun _ _ f => f))); obtain ⟨v', w4, hap, h4, k4⟩ := app_row hu (by have := FL.out; omega) k3.size; (have K4 := Lib.hid (K3.out.trans k4 (T := fun _ => False) (fun _ _ f => f) (fun _ _ f => f))); (have H4 := Lib.hid h4); (have SZ := Lib.hid K2.out.size); clear k4 h4 K3 hu k3)
  | (at_builtin; refine Lib.wpList_append_run _ rfl _ _ _ _ rfl _ _ rfl rfl _ _ hap ?_))
 rw [rounds_succ]
 go_wp2_with fail
 go_ret2
 exact ⟨⟨v', rfl, own_base H4.out SZ.out⟩, K4.out⟩
end Go.Proofs.YthknocapablpaaaGreatDoor

/- ints.Get of a number that was put: plainly. -/
namespace Go.Proofs.YthknocapablpaaaGreatDoor
open Go.RowKit Go.Lib Go.Eng
set_option maxRecDepth 100000
/-- A byte of a number of so many. -/
def digJ (m : Nat) (n : Int) (j : Nat) : Int := n / 128 ^ (m - 1 - j) % 128 + (if j + 1 < m then 128 else 0)
theorem putL_get : ∀ (m : Nat) (n : Int) (j : Nat), j < m → (putL m n)[j]? = some (digJ m n j)
 | 0, _, j, h => by omega
 | 1, n, j, h => by
  have : j = 0 := by omega
  subst this
  simp [putL, digJ]
 | m + 2, n, 0, h => by simp [putL, digJ]
 | m + 2, n, j + 1, h => by
  have ih := putL_get (m + 1) n j (by omega)
  simp only [putL, List.getElem?_cons_succ, ih, digJ]
  have e1 : m + 1 - 1 - j = m + 2 - 1 - (j + 1) := by omega
  have e2 : (j + 1 < m + 1) ↔ (j + 1 + 1 < m + 2) := by omega
  rw [e1]
  simp only [e2]
theorem digJ_fit (m : Nat) (n : Int) (j : Nat) : 0 ≤ digJ m n j ∧ digJ m n j < 256 := by
 unfold digJ
 split <;> omega
theorem putM_spec (n : Int) (h0 : 0 ≤ n) (h1 : n ≤ 9223372036854775807) : 1 ≤ putM n ∧ putM n ≤ 9 ∧ n < 128 ^ putM n ∧ (2 ≤ putM n → 128 ^ (putM n - 1) ≤ n) := by
 obtain ⟨x, rfl⟩ := Int.eq_ofNat_of_zero_le h0
 have hx : x < 2 ^ 64 := by omega
 have hb : Lib.bitLen x ≤ 63 := Lib.bitLen_le _ 63 (by omega) (by omega)
 unfold putM
 simp only [Int.toNat_natCast]
 obtain ⟨L, hL⟩ : ∃ L, Lib.bitLen x = L := ⟨_, rfl⟩
 obtain ⟨m, hm⟩ : ∃ m, max 1 ((L + 7 - 1) / 7) = m := ⟨_, rfl⟩
 rw [hL] at hb ⊢
 rw [hm]
 have p : ∀ k : Nat, (128 : Nat) ^ k = 2 ^ (7 * k) := fun k => by rw [Nat.pow_mul]
 by_cases hz : x = 0
 ·subst hz
  have : L = 0 := by rw [← hL]; decide
  subst this
  have : m = 1 := by omega
  subst this
  exact ⟨by omega, by omega, by decide, by omega⟩
 ·obtain ⟨b1, b2, b3⟩ := Lib.bitLenAux_bounds 64 x hx hz
  change 1 ≤ Lib.bitLen x at b1
  change 2 ^ (Lib.bitLen x - 1) ≤ x at b2
  change x < 2 ^ Lib.bitLen x at b3
  rw [hL] at b1 b2 b3
  refine ⟨by omega, by omega, ?_, fun h2 => ?_⟩
  ·have h3 : (2 : Nat) ^ L ≤ 2 ^ (7 * m) := Nat.pow_le_pow_right (by omega) (by omega)
   have h4 : x < 128 ^ m := by rw [p]; omega
   exact_mod_cast h4
  ·have h3 : (2 : Nat) ^ (7 * (m - 1)) ≤ 2 ^ (L - 1) := Nat.pow_le_pow_right (by omega) (by omega)
   have h4 : 128 ^ (m - 1) ≤ x := by rw [p]; omega
   exact_mod_cast h4
theorem bits_put (x : Int) (h0 : 0 ≤ x) (h1 : x ≤ 9223372036854775807) : bits .or .i64 (x / 128 * 128) (x % 128) = x := by
 rw [bits_join .i64 63 (by decide) (fun n hn h => by rw [IntKind.wrap_i64]; omega) 7 (x / 128 * 128) (x % 128) (by omega) (by omega) (by omega) (by omega) (by omega) (by omega)]
 omega
/-- The value of the first digits. -/
def valJ (m : Nat) (n : Int) (i : Nat) : Int := n / 128 ^ (m - i)
theorem valJ_step {m i : Nat} {n : Int} (h : i < m) : valJ m n i = valJ m n (i + 1) / 128 ∧ digJ m n i = valJ m n (i + 1) % 128 + (if i + 1 < m then 128 else 0) := by
 unfold valJ digJ
 have e : m - i = (m - (i + 1)) + 1 := by omega
 have e2 : m - 1 - i = m - (i + 1) := by omega
 rw [e, e2]
 refine ⟨?_, rfl⟩
 rw [Int.pow_succ, Int.ediv_ediv_of_nonneg (Int.pow_nonneg (by omega))]
theorem valJ_fit {m i : Nat} {n : Int} (h0 : 0 ≤ n) (h1 : n ≤ 9223372036854775807) : 0 ≤ valJ m n i ∧ valJ m n i ≤ 9223372036854775807 := by
 unfold valJ
 have hp : (0 : Int) < 128 ^ (m - i) := Int.pow_pos (by omega)
 refine ⟨Int.ediv_nonneg h0 (by omega), Int.le_trans ?_ h1⟩
 exact Int.ediv_le_self _ h0
theorem valJ_zero {m : Nat} {n : Int} (h0 : 0 ≤ n) (h : n < 128 ^ m) : valJ m n 0 = 0 := by
 unfold valJ
 rw [Nat.sub_zero]
 exact Int.ediv_eq_zero_of_lt h0 h
theorem valJ_whole {m : Nat} {n : Int} : valJ m n m = n := by
 unfold valJ
 rw [Nat.sub_self]
 simp
theorem digJ_first {m : Nat} {n : Int} (h0 : 0 ≤ n) (h : 2 ≤ m → 128 ^ (m - 1) ≤ n) (h2 : n < 128 ^ m) (hm : 1 ≤ m) : digJ m n 0 ≠ 128 := by
 unfold digJ
 split
 ·have hp : (0 : Int) < 128 ^ (m - 1) := Int.pow_pos (by omega)
  have h3 : n / 128 ^ (m - 1) < 128 := by
   apply Int.ediv_lt_of_lt_mul hp
   have e : m = (m - 1) + 1 := by omega
   rw [e, Int.pow_succ] at h2
   rw [Int.mul_comm]
   exact h2
  have h4 : 1 ≤ n / 128 ^ (m - 1) := by
   rw [Int.le_ediv_iff_mul_le hp]
   have := h (by omega)
   omega
  have e2 : m - 1 - 0 = m - 1 := by omega
  rw [e2]
  omega
 ·omega
/-- A text that stands in another one. -/
def StandsAt (s : ByteArray) (a : Nat) (x : ByteArray) : Prop := ∃ pre post : List UInt8, s.data.toList = pre ++ x.data.toList ++ post ∧ a = pre.length
theorem StandsAt.size {s x : ByteArray} {a : Nat} (h : StandsAt s a x) : a + x.size ≤ s.size := by
 obtain ⟨pre, post, h, rfl⟩ := h
 have := congrArg List.length h
 rw [data_length] at this
 simp only [List.length_append, data_length] at this
 omega
theorem StandsAt.get {s x : ByteArray} {a j : Nat} (h : StandsAt s a x) (hj : j < x.size) : ∃ hs : a + j < s.size, s[a + j] = x[j] := by
 have hz := h.size
 refine ⟨by omega, ?_⟩
 obtain ⟨pre, post, h, rfl⟩ := h
 have h1 : s.data.toList[pre.length + j]? = x.data.toList[j]? := by
  rw [h, List.append_assoc, List.getElem?_append_right (by omega)]
  rw [show pre.length + j - pre.length = j by omega]
  rw [List.getElem?_append_left (by rw [data_length]; exact hj)]
 rw [List.getElem?_eq_getElem (by rw [data_length]; omega), List.getElem?_eq_getElem (by rw [data_length]; exact hj)] at h1
 exact Option.some.inj h1
theorem put_get {n : Int} {j : Nat} (h0 : 0 ≤ n) (hj : j < putM n) : ∃ hs : j < (putF n).size, ((putF n)[j].toNat : Int) = digJ (putM n) n j := by
 have e : putF n = strOfNums (putL (putM n) n) := by unfold putF; rw [if_neg (by omega)]
 have hz : (putF n).size = putM n := by rw [e, strOfNums_size, putL_length]
 refine ⟨by omega, ?_⟩
 have h1 : (putF n).data.toList[j]? = some (UInt8.ofNat (digJ (putM n) n j).toNat) := by
  rw [e, strOfNums_data, List.getElem?_map, putL_get _ _ _ hj]
  rfl
 rw [List.getElem?_eq_getElem (by rw [data_length]; omega)] at h1
 have h2 : (putF n)[j]'(by omega) = UInt8.ofNat (digJ (putM n) n j).toNat := Option.some.inj h1
 rw [h2]
 have := digJ_fit (putM n) n j
 rw [UInt8.toNat_ofNat']
 omega
theorem putF_sz {n : Int} (h0 : 0 ≤ n) : (putF n).size = putM n := by
 unfold putF
 rw [if_neg (by omega), strOfNums_size, putL_length]
end Go.Proofs.YthknocapablpaaaGreatDoor

