/- merges.Newest, walked: of each key the first one. -/
import Derived.Test.YtfhpjopdndnmgaaRound
namespace Go.Proofs.Ytfhpjopdndnmgaa
open Go.RowKit
attribute [local go_sem] Oper.semAt_some

/-- Does a cell behind those that are there stay? -/
def stays (out : List Cel) (x : Cel) : Bool := decide (out.length = 0) || !sEq (nth out (out.length - 1)).k x.k
def addF (out : List Cel) (x : Cel) : List Cel := if stays out x = true then out ++ [x] else out
/-- Of each key the first one. -/
def firstF (pre : List Cel) : List Cel := pre.foldl addF []
theorem firstF_snoc (pre : List Cel) (x : Cel) : firstF (pre ++ [x]) = addF (firstF pre) x := by unfold firstF; rw [List.foldl_append]; rfl
theorem firstF_length (pre : List Cel) : (firstF pre).length ≤ pre.length := by
  have : ∀ (l out : List Cel), (l.foldl addF out).length ≤ out.length + l.length := by
    intro l
    induction l with
    | nil => intro out; simp
    | cons x t ih =>
      intro out
      rw [List.foldl_cons]
      have h1 := ih (addF out x)
      have h2 : (addF out x).length ≤ out.length + 1 := by unfold addF; split <;> simp
      simp only [List.length_cons]; omega
  have := this pre []
  simpa [firstF] using this

theorem stays_no {out : List Cel} {x y : Cel} {j : Nat} (hj : out.length = j + 1) (hy : nth out j = y) (he : (y.k.toList == x.k.toList) = true) : stays out x = false := by
  unfold stays sEq
  rw [hj, Nat.add_sub_cancel, hy, he]
  simp
theorem stays_yes {out : List Cel} {x y : Cel} {j : Nat} (hj : out.length = j + 1) (hy : nth out j = y) (he : (y.k.toList == x.k.toList) = false) : stays out x = true := by
  unfold stays sEq
  rw [hj, Nat.add_sub_cancel, hy, he]
  simp

set_option maxRecDepth 100000 in
set_option maxHeartbeats 4000000 in
theorem newest_any (w : World) (v0 : Value) (L : List (List Cel)) (h : ReadsR w v0 L) (hL : L.length ≤ 50) (hl : ∀ R ∈ L, R.length ≤ 1000) (ht : total L ≤ 1000) :
    Calls Try.prog 13 #[v0] w fun e w' => Kept (fun _ => False) w w' ∧
      ((L.all sortedB = false ∧ e = .returned (.tuple #[.slice none 0 0, .int .i64 2])) ∨
       (L.all sortedB = true ∧ ∃ u, e = .returned (.tuple #[u, .int .i64 0]) ∧ w'.ownsRow w.heap.size 36 3 u (firstF (mergeL L)).length (cellsC (firstF (mergeL L))))) := by
  have HN := Lib.hid (new_any w v0 L h hL hl)
  clear h hl
  refine (callsIn_wide (n := 5)).1 ?_
  refine callsIn_of_wp_marks Try.func13 rfl trivial ?_ rfl
  simp only [Try.ntmps13, List.size_toArray, List.length_cons, List.length_nil, Nat.reduceAdd, Nat.reduceSub, Array.replicate_succ, Array.replicate_zero, List.push_toArray, List.append_toArray, List.nil_append, List.cons_append]
  gi_wp2_with fail
  refine ⟨trivial, (callsIn_wide.2 HN.out).mono ?_⟩
  rintro e w1 ⟨K1, ⟨ha, rfl⟩ | ⟨ha, p, v, l, rfl, hIt, hperm⟩⟩
  · have KK1 := Lib.hid K1; have HA := Lib.hid ha; clear K1 ha
    gi_wp2
    refine ⟨_, by simp [results, Try.results13, go_sem]; try rfl, ?_⟩
    exact ⟨KK1.out, .inl ⟨HA.out, rfl⟩⟩
  · have e1 : drainL (sumL l) l = mergeL L := by
      rw [total_perm l L hperm]
      exact drain_merge (total L) l L hIt.hp (fun r hr => (hIt.heap.good r hr).ne) hperm
    have e2 : sumL l ≤ 1000 := by rw [total_perm l L hperm]; exact ht
    have KK1 := Lib.hid K1; have HA := Lib.hid ha; have IT := Lib.hid hIt; have E1 := Lib.hid e1
    clear K1 ha hIt hperm e1
    have ge1 := KK1.out.size
    gi_wp2_with (refine ⟨trivial, ?_⟩; gi_at_call 25; refine (callsIn_wide.2 (each_new p _)).mono ?_; rintro e w2 ⟨rfl, rfl⟩)
    obtain ⟨W0, hW0⟩ : ∃ W0, (w1.alloc (.cells #[.slice none 0 0] 25)).alloc (.cells #[.pointer (some ⟨p, 0, none⟩)] 32) = W0 := ⟨_, rfl⟩
    have hs1 : (w1.alloc (.cells #[.slice none 0 0] 25)).heap.size = w1.heap.size + 1 := by simp
    have k0 : Kept (fun _ => False) w1 W0 := by rw [← hW0]; exact ((Kept.refl _ w1).alloc _).alloc _
    have hs0 : W0.heap.size = w1.heap.size + 2 := by rw [← hW0]; simp
    have hc0 : W0.cell? ⟨w1.heap.size, 0, none⟩ = some (.slice none 0 0) := by rw [← hW0]; simp [go_sem]
    have hf0 : W0.frozen? ⟨w1.heap.size, 0, none⟩ = false := by rw [← hW0]; simp [go_sem]
    have hb0 : W0.cell? ⟨w1.heap.size + 1, 0, none⟩ = some (.pointer (some ⟨p, 0, none⟩)) := by rw [← hW0]; simp [go_sem]
    try simp only [hs1]
    rw [hW0]
    clear hW0 hs1
    refine range_each (bx := w1.heap.size + 1) (base := w.heap.size) (p := p) (v := v) (l := l) (by omega) rfl rfl (boxI_mine w.heap.size w1.heap.size firstF) (T := fun b => b = w1.heap.size)
      ⟨.slice none 0 0, fun b => by simp [Value.ownBlock], hc0, hf0, World.ownsRow_nil _ _ _ _, by simp [Value.ownBlock], by omega⟩ (IT.out.kept k0) (by omega) hb0 (by omega) (fun hb => by have := IT.out.own_lt _ hb; omega) (fun b hb e => by have := IT.out.own_lt b hb; omega)
      (fun x b => { tmps := #[v0, undef, .slice none 0 0, .int .i64 0, .pointer (some ⟨p, 0, none⟩), .int .i64 0, .pointer (some ⟨w1.heap.size, 0, none⟩), .pointer (some ⟨b, 0, none⟩), undef,
        .tuple #[.pointer (some ⟨p, 0, none⟩), .int .i64 0], v0, .tuple #[.pointer (some ⟨p, 0, none⟩), .int .i64 0], .pointer (some ⟨p, 0, none⟩), .int .i64 0, .int .i64 0, .bool false, undef, .pointer (some ⟨p, 0, none⟩), .func (.func 35) #[] #[.pointer (some ⟨w1.heap.size + 1, 0, none⟩)],
        .agg #[.string x.k, .int .i64 x.s, .string x.v], undef, undef, undef, undef, undef, undef, undef, undef, undef, undef, undef, undef, undef, undef, undef, undef, undef, undef, undef, undef], defers := [] }) ?assign ?body ?done
    case assign =>
      intro k x W K hK
      unfold Cel.val
      gi_wp2
      exact hK
    case body =>
      rintro k T pre x W b ⟨u, hT, h1, h2, h3, h4, h5⟩ hlen ⟨c0, c1, c2, _⟩ hTb
      obtain ⟨i0, hi, hz0, hz1, hz2⟩ := info_parts inf36
      obtain ⟨out, hout⟩ : ∃ o, firstF pre = o := ⟨_, rfl⟩
      have hol : out.length ≤ pre.length := by rw [← hout]; exact firstF_length pre
      have hfs : firstF (pre ++ [x]) = addF out x := by rw [firstF_snoc, hout]
      rw [hout] at h3
      have hBl := World.block_lt_of_cell? _ _ h1
      simp only at hBl
      have hbl := World.block_lt_of_cell? _ _ c0
      simp only at hbl
      have hsh2 : ∃ ao cap, u = .slice ao out.length cap := by
        rcases row_form h3 with ⟨rfl, hn⟩ | ⟨g, cap, rfl, _⟩
        · exact ⟨none, 0, by rw [hn]⟩
        · exact ⟨_, _, rfl⟩
      obtain ⟨ao, cap, rfl⟩ := hsh2
      have OUT := Lib.hid hout; have HR := Lib.hid h3; have HT := Lib.hid hT; have FS := Lib.hid hfs
      have a1 : ¬ (Value.slice ao out.length cap).ownBlock = some w1.heap.size := h4
      have hlp : out.length + 1 ≤ 1000 := by omega
      have H5 := Lib.hid h5
      have hI0 : BoxI w.heap.size w1.heap.size firstF T pre W := ⟨_, HT.out, h1, h2, by rw [hout]; exact HR.out, h4, h5⟩
      have I0 := Lib.hid hI0
      -- the cell that is added
      have hadd : stays out x = true → ∀ ao' cap' w9, w9.ownsRow w.heap.size 36 3 (.slice ao' (out.length + 1) cap') (out.length + 1) (cellsC out ++ [.string x.k, .int .i64 x.s, .string x.v]) → Kept (fun k => (Value.slice ao out.length cap).ownBlock = some k) W w9 →
          ((Value.slice ao' (out.length + 1) cap').ownBlock = (Value.slice ao out.length cap).ownBlock ∨ ∀ b, (Value.slice ao' (out.length + 1) cap').ownBlock = some b → W.heap.size ≤ b) →
          ∃ T', BoxI w.heap.size w1.heap.size firstF T' (pre ++ [x]) (w9.setCell ⟨w1.heap.size, 0, none⟩ (.slice ao' (out.length + 1) cap')) ∧ Kept T W (w9.setCell ⟨w1.heap.size, 0, none⟩ (.slice ao' (out.length + 1) cap')) ∧ ∀ b, b < W.heap.size → T' b → T b := by
        intro hst ao' cap' w9 own9 k9 at9
        have s0 := k9.cell h1 a1
        have sf := k9.frozen h2 hBl a1
        have hne : (Value.slice ao' (out.length + 1) cap').ownBlock ≠ some w1.heap.size := fun e => by
          rcases at9 with h | h
          · rw [h] at e; exact a1 e
          · have := h _ e; omega
        have e1 : firstF (pre ++ [x]) = out ++ [x] := by rw [FS.out]; unfold addF; rw [if_pos hst]
        refine ⟨fun b => b = w1.heap.size ∨ (Value.slice ao' (out.length + 1) cap').ownBlock = some b, ⟨_, fun b => Iff.rfl, World.cell?_setCell_same' _ _ _ (by rw [s0]; rfl), by rw [World.frozen?_setCell]; exact sf, ?_, hne, by simp [World.setCell]; exact Nat.le_trans H5.out k9.size⟩, ?_, ?_⟩
        · refine ownsRow_setCell_other (v := .slice ao' (out.length + 1) cap') (a := ⟨w1.heap.size, 0, none⟩) ?_ hne _
          have e2 : cellsC (out ++ [x]) = cellsC out ++ [.string x.k, .int .i64 x.s, .string x.v] := by rw [cellsC_append]; rfl
          rw [e1, e2, List.length_append]
          exact own9
        · exact Kept.setAt (fun _ => (HT.out _).2 (.inl rfl)) (k9.mono (fun b _ hb => (HT.out b).2 (.inr hb)))
        · rintro b hb (rfl | h)
          · exact (HT.out _).2 (.inl rfl)
          · rcases at9 with q | q
            · exact (HT.out b).2 (.inr (q ▸ h))
            · have := q b h; omega
      have ADD := Lib.hid hadd
      clear h3 hT hfs h4 h5 hI0 hadd IT hc0 hf0 hb0 hout
      by_cases h0 : out.length = 0
      · have hst : stays out x = true := by unfold stays; simp [h0]
        have ST := Lib.hid hst; clear hst
        have hz : (out.length : Int) = 0 := by omega
        have LZ := Lib.hid h0; clear h0
        gi_wp2
        refine round_region (S := (fun _ => True)) k _ (by kernel_rfl) (by kernel_rfl) (by rintro ⟨_, _, h⟩; exact h) ?_ (fun hHeld => ?_)
        · trivial
        refine wpAnyH_take (i := 0) (v := ?_) opAt0 (by kernel_rfl) (by kernel_rfl) (by kernel_rfl) (fun _ _ _ h => h) (Or.inl ⟨by rfl, ?_⟩) hHeld ?_
        case refine_2 => (intro w hSw; (try dsimp only at hSw); go_simp; all_goals (with_reducible rfl))
        (try simp only [Act.put]); (try simp only [List.setIfInBounds_toArray]); (try simp only [List.set_cons_succ]); (try simp only [List.set_cons_zero])
        refine wpAnyH_take (i := 1) (v := ?_) opAt1 (by kernel_rfl) (by kernel_rfl) (by kernel_rfl) (fun _ _ _ h => h) (Or.inl ⟨by rfl, ?_⟩) hHeld ?_
        case refine_2 => (intro w hSw; (try dsimp only at hSw); go_simp; all_goals (with_reducible rfl))
        (try simp only [Act.put]); (try simp only [List.setIfInBounds_toArray]); (try simp only [List.set_cons_succ]); (try simp only [List.set_cons_zero])
        refine wpAnyH_take (i := 2) (v := ?_) opAt2 (by kernel_rfl) (by kernel_rfl) (by kernel_rfl) (fun _ _ _ h => h) (Or.inl ⟨by rfl, ?_⟩) hHeld ?_
        case refine_2 => (intro w hSw; (try dsimp only at hSw); go_simp; all_goals (with_reducible rfl))
        (try simp only [Act.put]); (try simp only [List.setIfInBounds_toArray]); (try simp only [List.set_cons_succ]); (try simp only [List.set_cons_zero])
        refine wpAnyH_take (i := 3) opAt3 (by kernel_rfl) (by kernel_rfl) (by kernel_rfl) (fun _ _ _ h => h) (Or.inr ⟨by rfl, rfl⟩) hHeld ?_
        (try simp only [Act.put]); (try simp only [List.setIfInBounds_toArray]); (try simp only [List.set_cons_succ]); (try simp only [List.set_cons_zero])
        refine wpAnyH_take (i := 4) opAt4 (by kernel_rfl) (by kernel_rfl) (by kernel_rfl) (fun _ _ _ h => h) (Or.inr ⟨by rfl, rfl⟩) hHeld ?_
        (try simp only [Act.put]); (try simp only [List.setIfInBounds_toArray]); (try simp only [List.set_cons_succ]); (try simp only [List.set_cons_zero])
        refine wpAnyH_take (i := 5) opAt5 (by kernel_rfl) (by kernel_rfl) (by kernel_rfl) (fun _ _ _ h => h) (Or.inr ⟨by rfl, rfl⟩) hHeld ?_
        (try simp only [Act.put]); (try simp only [List.setIfInBounds_toArray]); (try simp only [List.set_cons_succ]); (try simp only [List.set_cons_zero])
        refine wpAnyH_take (i := 6) opAt6 (by kernel_rfl) (by kernel_rfl) (by kernel_rfl) (fun _ _ _ h => h) (Or.inr ⟨by rfl, rfl⟩) hHeld ?_
        (try simp only [Act.put]); (try simp only [List.setIfInBounds_toArray]); (try simp only [List.set_cons_succ]); (try simp only [List.set_cons_zero])
        refine wpAnyH_take (i := 7) opAt7 (by kernel_rfl) (by kernel_rfl) (by kernel_rfl) (fun _ _ _ h => h) (Or.inr ⟨by rfl, rfl⟩) hHeld ?_
        (try simp only [Act.put]); (try simp only [List.setIfInBounds_toArray]); (try simp only [List.set_cons_succ]); (try simp only [List.set_cons_zero])
        refine wpAnyH_take (i := 8) opAt8 (by kernel_rfl) (by kernel_rfl) (by kernel_rfl) (fun _ _ _ h => h) (Or.inr ⟨by rfl, rfl⟩) hHeld ?_
        (try simp only [Act.put]); (try simp only [List.setIfInBounds_toArray]); (try simp only [List.set_cons_succ]); (try simp only [List.set_cons_zero])
        refine wpAnyH_take (i := 9) opAt9 (by kernel_rfl) (by kernel_rfl) (by kernel_rfl) (fun _ _ _ h => h) (Or.inr ⟨by rfl, rfl⟩) hHeld ?_
        (try simp only [Act.put]); (try simp only [List.setIfInBounds_toArray]); (try simp only [List.set_cons_succ]); (try simp only [List.set_cons_zero])
        refine wpAnyH_take (i := 10) opAt10 (by kernel_rfl) (by kernel_rfl) (by kernel_rfl) (fun _ _ _ h => h) (Or.inr ⟨by rfl, rfl⟩) hHeld ?_
        (try simp only [Act.put]); (try simp only [List.setIfInBounds_toArray]); (try simp only [List.set_cons_succ]); (try simp only [List.set_cons_zero])
        refine wpAnyH_take (i := 11) (v := ?_) opAt11 (by kernel_rfl) (by kernel_rfl) (by kernel_rfl) (fun _ _ _ h => h) (Or.inl ⟨by rfl, ?_⟩) hHeld ?_
        case refine_2 => (intro w hSw; (try dsimp only at hSw); go_simp; all_goals (with_reducible rfl))
        (try simp only [Act.put]); (try simp only [List.setIfInBounds_toArray]); (try simp only [List.set_cons_succ]); (try simp only [List.set_cons_zero])
        refine wpAnyH_done (by kernel_rfl) ?_ _
        gi_wp2_with (gi_at_builtin; refine in_append _ rfl _ _ 25 rfl w.heap.size 36 i0 _ 3 40 Try.underlying25 hi hz0 hz1 hz2 rfl (by decide) _ _ _ rfl (World.ownsRow.drew (World.ownsRow.alloc HR.out _)) ⟨W.heap.size, 0, none⟩ 1 1 [.string x.k, .int .i64 x.s, .string x.v] rfl ?q1 ?q2 ?q3 ?q4 ?q5 ?q6 ?_)
        case q1 => rfl
        case q2 => exact World.news_of_block (w := (W.alloc (Obj.cells #[Value.string x.k, Value.int .i64 x.s, Value.string x.v] 36)).drew) (heap_alloc_new W _)
        case q3 => intro u hu; simp at hu; rcases hu with rfl | rfl | rfl <;> rfl
        case q4 => unfold maxLen; omega
        case q5 => omega
        case q6 => have := H5.out; show w.heap.size ≤ (W.alloc _).heap.size; simp; omega
        intro v' w9 hown' hgrow hat
        obtain ⟨g', cap', rfl⟩ : ∃ g cap, v' = .slice (some ⟨g, 0, none⟩) (out.length + 1) cap := by
          rcases row_form hown' with ⟨_, h⟩ | ⟨g, c, h, _⟩
          · omega
          · exact ⟨g, c, h⟩
        have KG := grown_kept hgrow
        have s0 := KG.cell (a := ⟨w1.heap.size, 0, none⟩) (v := .slice ao out.length cap) (by simp [go_sem, h1, hBl]) a1
        have sf := KG.frozen (a := ⟨w1.heap.size, 0, none⟩) (by simp [go_sem, h2, hBl]) (by simp; omega) a1
        have k9 : Kept (fun k => (Value.slice ao out.length cap).ownBlock = some k) W w9 := (((Kept.refl (fun _ => False) W).alloc (.cells #[.string x.k, .int .i64 x.s, .string x.v] 36)).drew).trans KG (fun _ _ f => f.elim) (fun _ _ h => h)
        have at9 : (Value.slice (some ⟨g', 0, none⟩) (out.length + 1) cap').ownBlock = (Value.slice ao out.length cap).ownBlock ∨ ∀ b, (Value.slice (some ⟨g', 0, none⟩) (out.length + 1) cap').ownBlock = some b → W.heap.size ≤ b := by
          rcases hat with e | e
          · exact .inl e
          · right; intro b hb
            rw [hb] at e
            have h := Option.some.inj e
            have h2 : (W.alloc (Obj.cells #[Value.string x.k, Value.int .i64 x.s, Value.string x.v] 36)).heap.size = W.heap.size + 1 := by simp
            have h3 : (W.alloc (Obj.cells #[Value.string x.k, Value.int .i64 x.s, Value.string x.v] 36)).drew.heap.size = (W.alloc (Obj.cells #[Value.string x.k, Value.int .i64 x.s, Value.string x.v] 36)).heap.size := rfl
            omega
        have FIN := Lib.hid (ADD.out ST.out _ _ w9 hown' k9 at9)
        clear hown' hgrow hat KG k9 at9
        gi_wp2
        exact FIN.out
      · obtain ⟨j, hj⟩ : ∃ j, out.length = j + 1 := ⟨out.length - 1, by omega⟩
        obtain ⟨g, hg, hcell⟩ : ∃ g, ao = some ⟨g, 0, none⟩ ∧ ∀ i u, (cellsC out)[i]? = some u → W.cell? ⟨g, i, none⟩ = some u := by
          rcases row_form HR.out with ⟨_, hn⟩ | ⟨g, cap, he, _, _, _, h6⟩
          · omega
          · simp only [Value.slice.injEq] at he
            exact ⟨g, he.1, h6⟩
        subst hg
        obtain ⟨y, hy⟩ : ∃ y, nth out j = y := ⟨_, rfl⟩
        obtain ⟨q0, _, _⟩ := cellsC_get out j y (by rw [← hy]; exact nth_get out (by omega))
        have y0 := hcell _ _ q0
        have Y0 := Lib.hid y0
        clear hcell q0
        have hz : (out.length : Int) - 1 = (j : Int) := by omega
        have i1 : ¬ (j : Int) < 0 := by omega
        have i2 : (0 : Int) ≤ (j : Int) := by omega
        have i3 : (j : Int) < (out.length : Int) := by omega
        have J := Lib.hid hj; have Y := Lib.hid hy; have H0 := Lib.hid h0
        clear hj hy h0
        have hor : (y.k.toList == x.k.toList) = true ∨ (y.k.toList == x.k.toList) = false := by cases (y.k.toList == x.k.toList) <;> simp
        rcases hor with he | he
        ·
          have ST := Lib.hid (stays_no J.out Y.out he)
          have HE := Lib.hid he; clear he y0
          gi_wp2
          have he := HE.out; have y0 := Y0.out
          refine round_region (S := (fun w' => w'.cell? ⟨w1.heap.size, 0, none⟩ = some (.slice (some ⟨g, 0, none⟩) out.length cap) ∧ w'.cell? ⟨g, j * 3, none⟩ = some (.string y.k) ∧ w'.cell? ⟨b, 0, none⟩ = some (.string x.k))) k _ (by kernel_rfl) (by kernel_rfl) (by rintro ⟨_, _, h⟩; exact h) ?_ (fun hHeld => ?_)
          · exact ⟨h1, y0, c0⟩
          refine wpAnyH_take (i := 0) (v := ?_) opAt0 (by kernel_rfl) (by kernel_rfl) (by kernel_rfl) (fun _ _ _ h => h) (Or.inl ⟨by rfl, ?_⟩) hHeld ?_
          case refine_2 => (intro w hSw; (try dsimp only at hSw); go_simp; all_goals (with_reducible rfl))
          (try simp only [Act.put]); (try simp only [List.setIfInBounds_toArray]); (try simp only [List.set_cons_succ]); (try simp only [List.set_cons_zero])
          refine wpAnyH_take (i := 1) (v := ?_) opAt1 (by kernel_rfl) (by kernel_rfl) (by kernel_rfl) (fun _ _ _ h => h) (Or.inl ⟨by rfl, ?_⟩) hHeld ?_
          case refine_2 => (intro w hSw; (try dsimp only at hSw); go_simp; all_goals (with_reducible rfl))
          (try simp only [Act.put]); (try simp only [List.setIfInBounds_toArray]); (try simp only [List.set_cons_succ]); (try simp only [List.set_cons_zero])
          refine wpAnyH_take (i := 2) (v := ?_) opAt2 (by kernel_rfl) (by kernel_rfl) (by kernel_rfl) (fun _ _ _ h => h) (Or.inl ⟨by rfl, ?_⟩) hHeld ?_
          case refine_2 => (intro w hSw; (try dsimp only at hSw); go_simp; all_goals (with_reducible rfl))
          (try simp only [Act.put]); (try simp only [List.setIfInBounds_toArray]); (try simp only [List.set_cons_succ]); (try simp only [List.set_cons_zero])
          refine wpAnyH_take (i := 3) (v := ?_) opAt3 (by kernel_rfl) (by kernel_rfl) (by kernel_rfl) (fun _ _ _ h => h) (Or.inl ⟨by rfl, ?_⟩) hHeld ?_
          case refine_2 => (intro w hSw; (try dsimp only at hSw); go_simp; all_goals (with_reducible rfl))
          (try simp only [Act.put]); (try simp only [List.setIfInBounds_toArray]); (try simp only [List.set_cons_succ]); (try simp only [List.set_cons_zero])
          refine wpAnyH_take (i := 4) (v := ?_) opAt4 (by kernel_rfl) (by kernel_rfl) (by kernel_rfl) (fun _ _ _ h => h) (Or.inl ⟨by rfl, ?_⟩) hHeld ?_
          case refine_2 => (intro w hSw; (try dsimp only at hSw); go_simp; all_goals (with_reducible rfl))
          (try simp only [Act.put]); (try simp only [List.setIfInBounds_toArray]); (try simp only [List.set_cons_succ]); (try simp only [List.set_cons_zero])
          refine wpAnyH_take (i := 5) (v := ?_) opAt5 (by kernel_rfl) (by kernel_rfl) (by kernel_rfl) (fun _ _ _ h => h) (Or.inl ⟨by rfl, ?_⟩) hHeld ?_
          case refine_2 => (intro w hSw; (try dsimp only at hSw); go_simp; all_goals (with_reducible rfl))
          (try simp only [Act.put]); (try simp only [List.setIfInBounds_toArray]); (try simp only [List.set_cons_succ]); (try simp only [List.set_cons_zero])
          refine wpAnyH_take (i := 6) (v := ?_) opAt6 (by kernel_rfl) (by kernel_rfl) (by kernel_rfl) (fun _ _ _ h => h) (Or.inl ⟨by rfl, ?_⟩) hHeld ?_
          case refine_2 => (intro w hSw; (try dsimp only at hSw); go_simp; all_goals (with_reducible rfl))
          (try simp only [Act.put]); (try simp only [List.setIfInBounds_toArray]); (try simp only [List.set_cons_succ]); (try simp only [List.set_cons_zero])
          refine wpAnyH_take (i := 7) (v := ?_) opAt7 (by kernel_rfl) (by kernel_rfl) (by kernel_rfl) (fun _ _ _ h => h) (Or.inl ⟨by rfl, ?_⟩) hHeld ?_
          case refine_2 => (intro w hSw; (try dsimp only at hSw); go_simp; all_goals (with_reducible rfl))
          (try simp only [Act.put]); (try simp only [List.setIfInBounds_toArray]); (try simp only [List.set_cons_succ]); (try simp only [List.set_cons_zero])
          refine wpAnyH_take (i := 8) (v := ?_) opAt8 (by kernel_rfl) (by kernel_rfl) (by kernel_rfl) (fun _ _ _ h => h) (Or.inl ⟨by rfl, ?_⟩) hHeld ?_
          case refine_2 => (intro w hSw; (try dsimp only at hSw); go_simp; all_goals (with_reducible rfl))
          (try simp only [Act.put]); (try simp only [List.setIfInBounds_toArray]); (try simp only [List.set_cons_succ]); (try simp only [List.set_cons_zero])
          refine wpAnyH_take (i := 9) (v := ?_) opAt9 (by kernel_rfl) (by kernel_rfl) (by kernel_rfl) (fun _ _ _ h => h) (Or.inl ⟨by rfl, ?_⟩) hHeld ?_
          case refine_2 => (intro w hSw; (try dsimp only at hSw); go_simp; all_goals (with_reducible rfl))
          (try simp only [Act.put]); (try simp only [List.setIfInBounds_toArray]); (try simp only [List.set_cons_succ]); (try simp only [List.set_cons_zero])
          refine wpAnyH_take (i := 10) (v := ?_) opAt10 (by kernel_rfl) (by kernel_rfl) (by kernel_rfl) (fun _ _ _ h => h) (Or.inl ⟨by rfl, ?_⟩) hHeld ?_
          case refine_2 => (intro w hSw; (try dsimp only at hSw); go_simp; all_goals (with_reducible rfl))
          (try simp only [Act.put]); (try simp only [List.setIfInBounds_toArray]); (try simp only [List.set_cons_succ]); (try simp only [List.set_cons_zero])
          refine wpAnyH_take (i := 11) (v := ?_) opAt11 (by kernel_rfl) (by kernel_rfl) (by kernel_rfl) (fun _ _ _ h => h) (Or.inl ⟨by rfl, ?_⟩) hHeld ?_
          case refine_2 => (intro w hSw; (try dsimp only at hSw); go_simp; all_goals (with_reducible rfl))
          (try simp only [Act.put]); (try simp only [List.setIfInBounds_toArray]); (try simp only [List.set_cons_succ]); (try simp only [List.set_cons_zero])
          refine wpAnyH_done (by kernel_rfl) ?_ _
          gi_wp2
          have e1 : firstF (pre ++ [x]) = firstF pre := by
            rw [FS.out]; unfold addF; rw [ST.out]
            have := I0.out
            simp only [Bool.false_eq_true, if_false]
            exact OUT.out.symm
          refine ⟨T, ?_, (Kept.refl _ W).drew, fun _ _ h => h⟩
          obtain ⟨u, t1, t2, t3, t4, t5, t6⟩ := I0.out
          exact ⟨u, t1, t2, t3, by rw [e1]; exact t4, t5, t6⟩
        ·
          have ST := Lib.hid (stays_yes J.out Y.out he)
          have HE := Lib.hid he; clear he y0
          gi_wp2
          have he := HE.out; have y0 := Y0.out
          refine round_region (S := (fun w' => w'.cell? ⟨w1.heap.size, 0, none⟩ = some (.slice (some ⟨g, 0, none⟩) out.length cap) ∧ w'.cell? ⟨g, j * 3, none⟩ = some (.string y.k) ∧ w'.cell? ⟨b, 0, none⟩ = some (.string x.k))) k _ (by kernel_rfl) (by kernel_rfl) (by rintro ⟨_, _, h⟩; exact h) ?_ (fun hHeld => ?_)
          · exact ⟨h1, y0, c0⟩
          refine wpAnyH_take (i := 0) (v := ?_) opAt0 (by kernel_rfl) (by kernel_rfl) (by kernel_rfl) (fun _ _ _ h => h) (Or.inl ⟨by rfl, ?_⟩) hHeld ?_
          case refine_2 => (intro w hSw; (try dsimp only at hSw); go_simp; all_goals (with_reducible rfl))
          (try simp only [Act.put]); (try simp only [List.setIfInBounds_toArray]); (try simp only [List.set_cons_succ]); (try simp only [List.set_cons_zero])
          refine wpAnyH_take (i := 1) (v := ?_) opAt1 (by kernel_rfl) (by kernel_rfl) (by kernel_rfl) (fun _ _ _ h => h) (Or.inl ⟨by rfl, ?_⟩) hHeld ?_
          case refine_2 => (intro w hSw; (try dsimp only at hSw); go_simp; all_goals (with_reducible rfl))
          (try simp only [Act.put]); (try simp only [List.setIfInBounds_toArray]); (try simp only [List.set_cons_succ]); (try simp only [List.set_cons_zero])
          refine wpAnyH_take (i := 2) (v := ?_) opAt2 (by kernel_rfl) (by kernel_rfl) (by kernel_rfl) (fun _ _ _ h => h) (Or.inl ⟨by rfl, ?_⟩) hHeld ?_
          case refine_2 => (intro w hSw; (try dsimp only at hSw); go_simp; all_goals (with_reducible rfl))
          (try simp only [Act.put]); (try simp only [List.setIfInBounds_toArray]); (try simp only [List.set_cons_succ]); (try simp only [List.set_cons_zero])
          refine wpAnyH_take (i := 3) (v := ?_) opAt3 (by kernel_rfl) (by kernel_rfl) (by kernel_rfl) (fun _ _ _ h => h) (Or.inl ⟨by rfl, ?_⟩) hHeld ?_
          case refine_2 => (intro w hSw; (try dsimp only at hSw); go_simp; all_goals (with_reducible rfl))
          (try simp only [Act.put]); (try simp only [List.setIfInBounds_toArray]); (try simp only [List.set_cons_succ]); (try simp only [List.set_cons_zero])
          refine wpAnyH_take (i := 4) (v := ?_) opAt4 (by kernel_rfl) (by kernel_rfl) (by kernel_rfl) (fun _ _ _ h => h) (Or.inl ⟨by rfl, ?_⟩) hHeld ?_
          case refine_2 => (intro w hSw; (try dsimp only at hSw); go_simp; all_goals (with_reducible rfl))
          (try simp only [Act.put]); (try simp only [List.setIfInBounds_toArray]); (try simp only [List.set_cons_succ]); (try simp only [List.set_cons_zero])
          refine wpAnyH_take (i := 5) (v := ?_) opAt5 (by kernel_rfl) (by kernel_rfl) (by kernel_rfl) (fun _ _ _ h => h) (Or.inl ⟨by rfl, ?_⟩) hHeld ?_
          case refine_2 => (intro w hSw; (try dsimp only at hSw); go_simp; all_goals (with_reducible rfl))
          (try simp only [Act.put]); (try simp only [List.setIfInBounds_toArray]); (try simp only [List.set_cons_succ]); (try simp only [List.set_cons_zero])
          refine wpAnyH_take (i := 6) (v := ?_) opAt6 (by kernel_rfl) (by kernel_rfl) (by kernel_rfl) (fun _ _ _ h => h) (Or.inl ⟨by rfl, ?_⟩) hHeld ?_
          case refine_2 => (intro w hSw; (try dsimp only at hSw); go_simp; all_goals (with_reducible rfl))
          (try simp only [Act.put]); (try simp only [List.setIfInBounds_toArray]); (try simp only [List.set_cons_succ]); (try simp only [List.set_cons_zero])
          refine wpAnyH_take (i := 7) (v := ?_) opAt7 (by kernel_rfl) (by kernel_rfl) (by kernel_rfl) (fun _ _ _ h => h) (Or.inl ⟨by rfl, ?_⟩) hHeld ?_
          case refine_2 => (intro w hSw; (try dsimp only at hSw); go_simp; all_goals (with_reducible rfl))
          (try simp only [Act.put]); (try simp only [List.setIfInBounds_toArray]); (try simp only [List.set_cons_succ]); (try simp only [List.set_cons_zero])
          refine wpAnyH_take (i := 8) (v := ?_) opAt8 (by kernel_rfl) (by kernel_rfl) (by kernel_rfl) (fun _ _ _ h => h) (Or.inl ⟨by rfl, ?_⟩) hHeld ?_
          case refine_2 => (intro w hSw; (try dsimp only at hSw); go_simp; all_goals (with_reducible rfl))
          (try simp only [Act.put]); (try simp only [List.setIfInBounds_toArray]); (try simp only [List.set_cons_succ]); (try simp only [List.set_cons_zero])
          refine wpAnyH_take (i := 9) (v := ?_) opAt9 (by kernel_rfl) (by kernel_rfl) (by kernel_rfl) (fun _ _ _ h => h) (Or.inl ⟨by rfl, ?_⟩) hHeld ?_
          case refine_2 => (intro w hSw; (try dsimp only at hSw); go_simp; all_goals (with_reducible rfl))
          (try simp only [Act.put]); (try simp only [List.setIfInBounds_toArray]); (try simp only [List.set_cons_succ]); (try simp only [List.set_cons_zero])
          refine wpAnyH_take (i := 10) (v := ?_) opAt10 (by kernel_rfl) (by kernel_rfl) (by kernel_rfl) (fun _ _ _ h => h) (Or.inl ⟨by rfl, ?_⟩) hHeld ?_
          case refine_2 => (intro w hSw; (try dsimp only at hSw); go_simp; all_goals (with_reducible rfl))
          (try simp only [Act.put]); (try simp only [List.setIfInBounds_toArray]); (try simp only [List.set_cons_succ]); (try simp only [List.set_cons_zero])
          refine wpAnyH_take (i := 11) (v := ?_) opAt11 (by kernel_rfl) (by kernel_rfl) (by kernel_rfl) (fun _ _ _ h => h) (Or.inl ⟨by rfl, ?_⟩) hHeld ?_
          case refine_2 => (intro w hSw; (try dsimp only at hSw); go_simp; all_goals (with_reducible rfl))
          (try simp only [Act.put]); (try simp only [List.setIfInBounds_toArray]); (try simp only [List.set_cons_succ]); (try simp only [List.set_cons_zero])
          refine wpAnyH_done (by kernel_rfl) ?_ _
          gi_wp2_with (gi_at_builtin; refine in_append _ rfl _ _ 25 rfl w.heap.size 36 i0 _ 3 40 Try.underlying25 hi hz0 hz1 hz2 rfl (by decide) _ _ _ rfl (World.ownsRow.drew (World.ownsRow.alloc HR.out _)) ⟨W.heap.size, 0, none⟩ 1 1 [.string x.k, .int .i64 x.s, .string x.v] rfl ?q1 ?q2 ?q3 ?q4 ?q5 ?q6 ?_)
          case q1 => rfl
          case q2 => exact World.news_of_block (w := (W.alloc (Obj.cells #[Value.string x.k, Value.int .i64 x.s, Value.string x.v] 36)).drew) (heap_alloc_new W _)
          case q3 => intro u hu; simp at hu; rcases hu with rfl | rfl | rfl <;> rfl
          case q4 => unfold maxLen; omega
          case q5 => omega
          case q6 => have := H5.out; show w.heap.size ≤ (W.alloc _).heap.size; simp; omega
          intro v' w9 hown' hgrow hat
          obtain ⟨g', cap', rfl⟩ : ∃ g cap, v' = .slice (some ⟨g, 0, none⟩) (out.length + 1) cap := by
            rcases row_form hown' with ⟨_, h⟩ | ⟨g, c, h, _⟩
            · omega
            · exact ⟨g, c, h⟩
          have KG := grown_kept hgrow
          have s0 := KG.cell (a := ⟨w1.heap.size, 0, none⟩) (v := .slice (some ⟨g, 0, none⟩) out.length cap) (by simp [go_sem, h1, hBl]) a1
          have sf := KG.frozen (a := ⟨w1.heap.size, 0, none⟩) (by simp [go_sem, h2, hBl]) (by simp; omega) a1
          have k9 : Kept (fun k => (Value.slice (some ⟨g, 0, none⟩) out.length cap).ownBlock = some k) W w9 := (((Kept.refl (fun _ => False) W).alloc (.cells #[.string x.k, .int .i64 x.s, .string x.v] 36)).drew).trans KG (fun _ _ f => f.elim) (fun _ _ h => h)
          have at9 : (Value.slice (some ⟨g', 0, none⟩) (out.length + 1) cap').ownBlock = (Value.slice (some ⟨g, 0, none⟩) out.length cap).ownBlock ∨ ∀ b, (Value.slice (some ⟨g', 0, none⟩) (out.length + 1) cap').ownBlock = some b → W.heap.size ≤ b := by
            rcases hat with e | e
            · exact .inl e
            · right; intro b hb
              rw [hb] at e
              have h := Option.some.inj e
              have h2 : (W.alloc (Obj.cells #[Value.string x.k, Value.int .i64 x.s, Value.string x.v] 36)).heap.size = W.heap.size + 1 := by simp
              have h3 : (W.alloc (Obj.cells #[Value.string x.k, Value.int .i64 x.s, Value.string x.v] 36)).drew.heap.size = (W.alloc (Obj.cells #[Value.string x.k, Value.int .i64 x.s, Value.string x.v] 36)).heap.size := rfl
              omega
          have FIN := Lib.hid (ADD.out ST.out _ _ w9 hown' k9 at9)
          clear hown' hgrow hat KG k9 at9
          gi_wp2
          exact FIN.out
    case done =>
      rintro D T' W ⟨u, hT, h1, h2, h3, h4, h5⟩ hTD hk ht hD hDe
      gi_wp2
      refine ⟨by simp, .inl ⟨_, _, rfl, run_takeDeferred hDe, ?_⟩⟩
      refine ⟨_, by simp [results, Try.results13, go_sem]; try rfl, ?_⟩
      refine ⟨?_, .inr ⟨HA.out, u, rfl, ?_⟩⟩
      · refine (KK1.out.trans (k0.trans hk (T := fun b => w.heap.size ≤ b) (fun _ _ f => f.elim) (fun b hb h => ?_)) (fun _ _ f => f) (fun b hb h => by omega)).trans (kept_put W D _) (fun _ _ h => h) (fun b hb e => by omega)
        rcases h with h | h
        · omega
        · exact IT.out.ownI_ge b h
      · rw [E1.out] at h3
        exact own_keptS h3 (kept_put W D _) (fun b hb e => hTD ((hT D).2 (.inr (e ▸ hb))))
end Go.Proofs.Ytfhpjopdndnmgaa
