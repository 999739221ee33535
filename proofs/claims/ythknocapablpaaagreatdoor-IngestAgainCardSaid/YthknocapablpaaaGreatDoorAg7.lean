/- A part of the proof. -/
import Derived.Test.YthknocapablpaaaGreatDoorProg
import Derived.Shelf.Spec.SlicesInsert
import Derived.Lib.AppendZerosOnto
import Derived.Laws.NewBlocks
import Derived.Test.YthknocapablpaaaGreatDoorAg6
import Derived.Test.YthknocapablpaaaGreatDoorAg5

/- A row of elements that begins its block, whose capacity may be less than the block (a page that was parted). -/
namespace Go.Proofs.YthknocapablpaaaGreatDoor
open Go.RowKit Go.Lib Go.Eng

/-- A row of n elements, at the beginning of a block. -/
def RowB (w : World) (e size g n cap : Nat) (xs : List Value) : Prop := xs.length = n * size ∧ n ≤ cap ∧ ∃ C : Array Value, w.heap[g]? = some (.cells C e (0, 0)) ∧ cap * size ≤ C.size ∧ C.toList.take (n * size) = xs
theorem RowB.lt {w : World} {e size g n cap : Nat} {xs : List Value} (h : RowB w e size g n cap xs) : g < w.heap.size := by
 obtain ⟨_, _, C, hg, _⟩ := h
 exact (Array.getElem?_eq_some_iff.1 hg).1
theorem RowB.kept {S : Nat → Prop} {w w' : World} {e size g n cap : Nat} {xs : List Value} (h : RowB w e size g n cap xs) (K : Kept S w w') (hS : ¬ S g) : RowB w' e size g n cap xs := by
 have hl := h.lt
 obtain ⟨h1, h2, C, hg, h3⟩ := h
 exact ⟨h1, h2, C, (K.block g hl hS).trans hg, h3⟩
theorem RowB.cell {w : World} {e size g n cap : Nat} {xs : List Value} (h : RowB w e size g n cap xs) {j : Nat} {u : Value} (hj : xs[j]? = some u) : w.cell? ⟨g, j, none⟩ = some u := by
 obtain ⟨h1, h2, C, hg, h3, h4⟩ := h
 rw [← h4, List.getElem?_take] at hj
 split at hj
 ·simp only [World.cell?, hg]
  simpa using hj
 ·cases hj
theorem RowB.cellAdd {w : World} {e size g n cap : Nat} {xs : List Value} (h : RowB w e size g n cap xs) {j : Nat} {u : Value} (hj : xs[j]? = some u) : w.cell? ((⟨g, 0, none⟩ : Addr).add j) = some u := by
 rw [add_mid, Nat.zero_add]; exact h.cell hj
/-- Its first elements, with no more room than they need. -/
theorem RowB.part {w : World} {e size g n cap : Nat} {xs : List Value} (h : RowB w e size g n cap xs) {k c : Nat} (hk : k ≤ n) (hkc : k ≤ c) (hc : c ≤ cap) : RowB w e size g k c (xs.take (k * size)) := by
 obtain ⟨h1, h2, C, hg, h3, h4⟩ := h
 have a1 : k * size ≤ n * size := Nat.mul_le_mul_right _ hk
 have a2 : c * size ≤ cap * size := Nat.mul_le_mul_right _ hc
 refine ⟨by rw [List.length_take, h1]; omega, hkc, C, hg, by omega, ?_⟩
 rw [← h4, List.take_take, Nat.min_eq_left a1]
/-- append onto a row: in place, or in a new block. -/
theorem rowb_append {w : World} {t ty e size bytes : Nat} {i : TypeInfo} {z : Value} {g n cap : Nat} {xs : List Value} (ht : Tryz.prog.underlying t = some (.slice e)) (hi : Tryz.prog.info? e = some i) (hz : i.zero = some z)
  (hsize : i.size = size) (hby : i.bytes = bytes) (hzs : z.cells.size = size) (H : RowB w e size g n cap xs)
  (a : Addr) (m c : Nat) (news : List Value) (hl : news.length = m * size) (hnews : ∀ (j : Nat) (u : Value), news[j]? = some u → w.cell? (a.add j) = some u) (h1 : ∀ u ∈ news, u.oneCell' = true)
  (hn : n + m ≤ 1000000) (hb : bytes ≤ 1000000) :
  ∃ g' cap' w', (Builtin.append_ #[t, t] ty #[.slice (some ⟨g, 0, none⟩) n cap, .slice (some a) m c]).run Tryz.prog w = .ok (.slice (some ⟨g', 0, none⟩) (n + m) cap') w' ∧ RowB w' e size g' (n + m) cap' (xs ++ news) ∧ (g' = g ∨ g' = w.heap.size) ∧ Kept (fun b => b = g ∧ g' = g) w w' := by
 have hlen : (xs ++ news).length = (n + m) * size := by rw [List.length_append, H.1, hl, Nat.add_mul]
 have hlt := H.lt
 have HH := H
 obtain ⟨h0, h2, C, hg, h3, h4⟩ := H
 subst hsize
 by_cases hr : n + m ≤ cap
 ·have a1 : (n + m) * i.size ≤ cap * i.size := Nat.mul_le_mul_right _ hr
  have a2 : (n + m) * i.size = n * i.size + m * i.size := Nat.add_mul _ _ _
  have hrun := Go.run_append_room (P := Tryz.prog) w t ty e i ht hi g n cap C hg a m c news hl hnews h1 hr (by omega)
  refine ⟨g, cap, _, hrun, ⟨hlen, hr, _, setRow_heap w g C _ e _ hg, ?_, ?_⟩, .inl rfl, ⟨rfl, rfl, rfl, by simp, fun k _ hk => setRow_other w g k _ (fun q => hk ⟨q, rfl⟩)⟩⟩
  ·simp only [List.size_toArray, List.length_append, List.length_take, List.length_drop, Array.length_toList]
   omega
  ·rw [h4, ← hlen]
   exact List.take_left
 ·have hs : Builtin.nextslicecap (n + m) cap ≤ 2 * (n + m) := nextslicecap_le (by omega)
  have hs2 : Builtin.nextslicecap (n + m) cap * i.bytes ≤ (2 * (n + m)) * i.bytes := Nat.mul_le_mul_right _ hs
  have hs3 : (2 * (n + m)) * i.bytes ≤ 2000000 * 1000000 := Nat.mul_le_mul (by omega) (by omega)
  have hrun := Go.run_append_grow (P := Tryz.prog) w t ty e i z ht hi hz ⟨g, 0, none⟩ n cap xs h0 (fun j v hj => HH.cellAdd hj) a m c news hl hnews (by omega) (by omega) (by omega)
  have hge := grownCap_ge w (n + m) cap e
  refine ⟨w.heap.size, _, _, hrun, ⟨hlen, hge, _, heap_alloc_new w.drew _, ?_, ?_⟩, .inr rfl, ⟨rfl, rfl, rfl, by simp, fun k hk _ => heap_alloc_old w.drew _ hk⟩⟩
  ·simp only [Array.size_append, List.size_toArray, size_zeroCells, hzs, h0, hl, ← Nat.add_mul]
   refine Nat.mul_le_mul_right _ ?_
   omega
  ·simp only [Array.toList_append, List.append_assoc]
   rw [← List.append_assoc, ← hlen]
   exact List.take_left
end Go.Proofs.YthknocapablpaaaGreatDoor

/- slices.Insert of one cell of a page (api.Cell lies in three cells). -/
namespace Go.Proofs.YthknocapablpaaaGreatDoor
open Go.RowKit Go.Lib Go.Eng

/-- copy, where what is loaded and what is stored is known. -/
theorem run_copy3 {dt e size : Nat} {ats : Array TypeId} {ty : TypeId} {a b : Addr} {len cap sl sc m : Nat} {V : List Value} {w w' : World} (h0 : ats[0]? = some dt) (hu : Tryz.prog.underlying dt = some (.slice e)) (hs : ∀ w, (sizeOf e).run Tryz.prog w = .ok size w)
  (hm : Nat.min sl len = m) (hl : (loadCells b (m * size)).run Tryz.prog w = .ok V.toArray w) (hst : (storeCells a V).run Tryz.prog w = .ok () w') :
  (Builtin.copy_ ats ty #[.slice (some a) len cap, .slice (some b) sl sc]).run Tryz.prog w = .ok (goInt m) w' := by
 have v0 : (#[Value.slice (some a) len cap, .slice (some b) sl sc])[0]? = some (Value.slice (some a) len cap) := rfl
 have v1 : (#[Value.slice (some a) len cap, .slice (some b) sl sc])[1]? = some (Value.slice (some b) sl sc) := rfl
 have hf : (Builtin.firstCells size m (.slice (some b) sl sc)).run Tryz.prog w = .ok V.toArray w := hl
 simp only [Builtin.copy_, h0, v0, v1, Sem.run_bind, run_underlying hu, Result.andThen_ok, Builtin.lenOf, Sem.run_pure, hm, hs, hf, hst]

theorem loads3 {w : World} {b o n : Nat} {C : Array Value} {t : TypeId} {fr : Nat × Nat} (hb : w.heap[b]? = some (.cells C t fr)) {cs : List Value} (hcl : cs.length = n) (hcs : ∀ j v, cs[j]? = some v → C[o + j]? = some v) :
  (loadCells ⟨b, o, none⟩ n).run Tryz.prog w = .ok cs.toArray w := by
 have := run_loadCells_list (P := Tryz.prog) w ⟨b, o, none⟩ cs (fun j v hj => by
  rw [Addr.add_lit]
  simp only [World.cell?, hb]
  simpa using hcs j v hj)
 rwa [hcl] at this

set_option maxHeartbeats 4000000 in
set_option maxRecDepth 100000 in
theorem insert_shift (b off n c i vb voff vc : Nat) (C D : Array Value) (t tA : TypeId) (fr frA : Nat × Nat) (cs vs : List Value) (w : World)
  (hb : w.heap[b]? = some (.cells C t fr)) (hfr : ∀ j, j < C.size → ¬ (fr.1 ≤ j ∧ j < fr.2)) (hA : w.heap[vb]? = some (.cells D tA frA)) (hfA : ∀ j, j < D.size → ¬ (frA.1 ≤ j ∧ j < frA.2)) (hfe : w.frozen? ⟨vb, D.size, none⟩ = false) (hne : vb ≠ b)
  (hi : i < n) (hroom : n + 1 ≤ c) (hn : n < appendMax) (hfit : off + (n + 1) * 3 ≤ C.size)
  (hcl : cs.length = n * 3) (hcs : ∀ j v, cs[j]? = some v → C[off + j]? = some v) (h1c : allOne cs = true)
  (hvl : vs.length = 3) (hvs : ∀ j v, vs[j]? = some v → D[voff + j]? = some v) (h1v : allOne vs = true) :
  Calls Tryz.prog 206 #[.slice (some ⟨b, off, none⟩) n c, .int .i64 i, .slice (some ⟨vb, voff, none⟩) 1 vc] w fun e w' =>
   e = .returned (.slice (some ⟨b, off, none⟩) (n + 1) c) ∧ w' = { w.drew with heap := w.heap.setIfInBounds b (.cells ⟨layL (layL C.toList (off + (i + 1) * 3) (cs.drop (i * 3))) (off + i * 3) vs⟩ t fr) } := by
 have hz2 : ¬ ((i : Int) = (n : Int)) := by omega
 have hv3 : voff + 3 ≤ D.size := by
  have := hvs 2 _ (List.getElem?_eq_getElem (by omega))
  rcases Nat.lt_or_ge (voff + 2) D.size with h | h
  ·omega
  ·rw [Array.getElem?_eq_none h] at this; cases this
 have hfa : w.frozen? ⟨vb, voff, none⟩ = false := by
  simp only [World.frozen?, hA]
  simpa using hfA voff (by omega)
 have hov : ∀ lb cb, (callFunc 286 #[.slice (some ⟨vb, voff, none⟩) 1 vc, .slice (some ⟨b, off + (i + 1) * 3, none⟩) lb cb]).run Tryz.prog w = .ok (.value (.bool false)) w := fun lb cb => by
  rw [run_callFunc_extern Tryz.func286 (by kernel_rfl) (by kernel_rfl) (by kernel_rfl) (e := Extern.SlicesOverlaps.overlaps #[65, 65] #[132]) (by kernel_rfl),
   Lib.run_overlaps_apart w 65 132 132 Tryz.underlying65 3 Tryz.sizeOf132 ⟨vb, voff, none⟩ ⟨b, off + (i + 1) * 3, none⟩ 1 vc lb cb hne tA t D.size C.size (by simp only [World.shape?, hA]) (by simp only [World.shape?, hb]) (by omega) hfa hfe]
  rfl
 have hlt : b < w.heap.size := by
  rcases Nat.lt_or_ge b w.heap.size with h | h
  ·exact h
  ·rw [Array.getElem?_eq_none h] at hb; cases hb
 have hdl : (cs.drop (i * 3)).length = (n - i) * 3 := by rw [List.length_drop, hcl]; omega
 obtain ⟨C1, hC1⟩ : ∃ C1 : Array Value, C1 = ⟨layL C.toList (off + (i + 1) * 3) (cs.drop (i * 3))⟩ := ⟨_, rfl⟩
 have hC1s : C1.size = C.size := by
  rw [hC1]
  simp only [List.size_toArray]
  rw [layL_length (by rw [hdl]; simp only [Array.length_toList]; omega)]
  simp
 obtain ⟨W1, hW1⟩ : ∃ W1 : World, W1 = { w.drew with heap := w.heap.setIfInBounds b (.cells C1 t fr) } := ⟨_, rfl⟩
 have hcp1 : ∀ ty dc sc, (Builtin.copy_ #[305, 305] ty #[.slice (some ⟨b, off + (i + 1) * 3, none⟩) (n - i) dc, .slice (some ⟨b, off + i * 3, none⟩) (n + 1 - i) sc]).run Tryz.prog w.drew = .ok (goInt (n - i : Nat)) W1 := fun ty dc sc => by
  refine run_copy3 (e := 132) (size := 3) (V := cs.drop (i * 3)) rfl Tryz.underlying305 Tryz.sizeOf132 (by simp only [Nat.min_def]; split <;> omega) ?_ ?_
  ·exact loads3 (w := w.drew) (t := t) (fr := fr) hb hdl (fun j v hj => by
    rw [List.getElem?_drop] at hj
    have := hcs _ v hj
    rwa [← Nat.add_assoc] at this)
  ·rw [hW1, hC1]
   have := run_storeCells (P := Tryz.prog) (w := w.drew) hb hfr (cs.drop (i * 3)) (off + (i + 1) * 3) 0 (allOne_iff.2 fun v hv => allOne_iff.1 h1c v (List.mem_of_mem_drop hv)) (by omega)
   exact this
 obtain ⟨W2, hW2⟩ : ∃ W2 : World, W2 = { w.drew with heap := w.heap.setIfInBounds b (.cells ⟨layL C1.toList (off + i * 3) vs⟩ t fr) } := ⟨_, rfl⟩
 have hcp2 : ∀ ty dc, (Builtin.copy_ #[305, 65] ty #[.slice (some ⟨b, off + i * 3, none⟩) (n + 1 - i) dc, .slice (some ⟨vb, voff, none⟩) 1 vc]).run Tryz.prog W1 = .ok (goInt (1 : Nat)) W2 := fun ty dc => by
  refine run_copy3 (e := 132) (size := 3) (V := vs) rfl Tryz.underlying305 Tryz.sizeOf132 (by simp only [Nat.min_def]; split <;> omega) ?_ ?_
  ·refine loads3 (w := W1) (t := tA) (fr := frA) (C := D) ?_ hvl hvs
   rw [hW1]
   simp only [Array.getElem?_setIfInBounds_ne (Ne.symm hne)]
   exact hA
  ·have h1 : W1.heap[b]? = some (.cells C1 t fr) := by
    rw [hW1]
    simp only [Array.getElem?_setIfInBounds_self, if_pos hlt]
   have := run_storeCells (P := Tryz.prog) (w := W1) h1 (by rw [hC1s]; exact hfr) vs (off + i * 3) 0 h1v (by omega)
   refine this.trans ?_
   rw [hW2, hW1]
   simp only [Array.setIfInBounds_setIfInBounds, Nat.add_zero]
 have hfin : W2 = { w.drew with heap := w.heap.setIfInBounds b (.cells ⟨layL (layL C.toList (off + (i + 1) * 3) (cs.drop (i * 3))) (off + i * 3) vs⟩ t fr) } := by rw [hW2, hC1]
 rw [← hfin]
 have hw1 : IntKind.i64.wrap ((i : Int) + 1) = (i : Int) + 1 := by rw [IntKind.wrap_i64]; unfold appendMax at hn; omega
 have hw2 : IntKind.i64.wrap ((n : Int) + 1) = (n : Int) + 1 := by rw [IntKind.wrap_i64]; unfold appendMax at hn; omega
 have hb1 : (0 : Int) ≤ (i : Int) + 1 := by omega
 have hin : i ≤ n := by omega
 have htn : ((i : Int) + 1).toNat = i + 1 := by omega
 have htn2 : ((n : Int) + 1).toNat = n + 1 := by omega
 have hb2 : ¬ (c = i + 1) := by omega
 have hb3 : (i : Int) ≤ (n : Int) + 1 := by omega
 have hb4 : ¬ (c = i) := by omega
 have mixed : Tryz.prog.follows .mixedOrders = true := by kernel_rfl
 have hb5 : ¬ ((c : Int) < (n : Int) + 1) := by omega
 clear hfin hW1 hW2 hC1 hC1s hA hfA hfe hfa hv3 hcs hvs hfr hfit hcl hvl h1c h1v hb hdl
 go_enter Tryz.func206, Tryz.ntmps206
 go_wp2_with (simp only [hov])
 go_region_law_o (refine step_copy_runI rfl _ _ 305 305 rfl _ _ (by simp [Act.eval, Act.put]) (by simp [Act.eval, Act.put]) (hcp1 _ _ _) ?_)
 go_wp2_with (at_builtin; refine wpList_copy_runI _ rfl _ _ 305 65 rfl _ _ rfl rfl (hcp2 _ _) ?_)
 go_ret
 exact ⟨rfl, rfl⟩

end Go.Proofs.YthknocapablpaaaGreatDoor

/- slices.Insert of one cell of a page: a new row. -/
namespace Go.Proofs.YthknocapablpaaaGreatDoor
open Go.RowKit Go.Lib Go.Eng

set_option maxHeartbeats 4000000 in
set_option maxRecDepth 100000 in
theorem insert_grow (b off n c i vb voff vc : Nat) (C D : Array Value) (t tA : TypeId) (fr frA : Nat × Nat) (cs vs : List Value) (w : World)
  (hb : w.heap[b]? = some (.cells C t fr)) (hA : w.heap[vb]? = some (.cells D tA frA))
  (hi : i < n) (hn : n < appendMax) (hnc : n ≤ c) (hroom : c < n + 1)
  (hcl : cs.length = n * 3) (hcs : ∀ j v, cs[j]? = some v → C[off + j]? = some v) (h1c : allOne cs = true)
  (hvl : vs.length = 3) (hvs : ∀ j v, vs[j]? = some v → D[voff + j]? = some v) (h1v : allOne vs = true) :
  Calls Tryz.prog 206 #[.slice (some ⟨b, off, none⟩) n c, .int .i64 i, .slice (some ⟨vb, voff, none⟩) 1 vc] w fun e w' => ∃ (k : Nat) (A : Array Value),
   e = .returned (.slice (some ⟨w.heap.size, 0, none⟩) (n + 1) (n + 1 + k)) ∧ w'.heap = w.heap.push (.cells A 132 (0, 0)) ∧ w'.os = w.os ∧ w'.tape = w.tape ∧ w'.output = w.output ∧
   (n + 1) * 3 + k * 3 ≤ A.size ∧ ∀ (j : Nat) (v : Value), (cs.take (i * 3) ++ vs ++ cs.drop (i * 3))[j]? = some v → A[j]? = some v := by
 have hz2 : ¬ ((i : Int) = (n : Int)) := by omega
 have hbw : b < w.heap.size := by
  rcases Nat.lt_or_ge b w.heap.size with h | h
  ·exact h
  ·rw [Array.getElem?_eq_none h] at hb; cases hb
 have hvw : vb < w.heap.size := by
  rcases Nat.lt_or_ge vb w.heap.size with h | h
  ·exact h
  ·rw [Array.getElem?_eq_none h] at hA; cases hA
 obtain ⟨inf, hinf, hbytes, Z, hZ, hZs, hZv⟩ : ∃ inf, Tryz.prog.info? 132 = some inf ∧ inf.bytes ≤ appendMax ∧ ∃ Z, inf.zero = some Z ∧ Z.cells.size = 3 ∧ ∀ w', (zeroValue 132).run Tryz.prog w' = .ok Z w' :=
  ⟨_, rfl, by decide, _, rfl, rfl, Tryz.zeroValue132⟩
 have htk : (cs.take (i * 3)).length = i * 3 := by rw [List.length_take, hcl]; omega
 obtain ⟨k, hap⟩ := run_append_grow' (P := Tryz.prog) (st := 305) (e := 132) (size := 3) (n := n + 1 - i) (len := i) (cap := c) («as» := #[305, 3]) (vs := #[.slice (some ⟨b, off, none⟩) i c, .int .i64 (Int.ofNat (n + 1 - i))]) (ty := 305)
  (base := some ⟨b, off, none⟩) (zeros := true) (N := Builtin.zeroCells Z.cells (n + 1 - i)) (OLD := (cs.take (i * 3)).toArray) (i := inf) (Z := Z) (w := w)
  rfl rfl rfl Tryz.underlying305 rfl hinf hbytes (.inr ⟨3, _, rfl, Tryz.underlying3, rfl⟩) (by unfold appendMax at *; omega) (by unfold appendMax at *; omega) hZv (fun _ => ⟨⟨_, rfl⟩, rfl⟩) (fun q => by cases q)
  (by rw [← Array.length_toList, zeroCells_eq, List.length_flatten]; simp [hZs]) (fun w' hw' => by
   have := loads3 (w := w') (b := b) (o := off) (t := t) (fr := fr) (C := C) (by rw [hw']; exact hb) htk (fun j v hj => by
    rw [List.getElem?_take] at hj
    split at hj
    ·exact hcs j v hj
    ·cases hj)
   exact this) (by omega)
 have hin1 : i + (n + 1 - i) = n + 1 := by omega
 have hii : (Int.ofNat (n + 1 - i)) = (n : Int) + 1 - (i : Int) := by simp only [Int.ofNat_eq_natCast]; omega
 rw [hin1, hii] at hap
 obtain ⟨A0, hA0⟩ : ∃ A0 : Array Value, A0 = (cs.take (i * 3)).toArray ++ Builtin.zeroCells Z.cells (n + 1 - i) ++ Builtin.zeroCells Z.cells k := ⟨_, rfl⟩
 rw [← hA0] at hap
 have zs : ∀ q, (Builtin.zeroCells Z.cells q).size = q * 3 := fun q => by rw [← Array.length_toList, zeroCells_eq, List.length_flatten]; simp [hZs]
 have hA0s : A0.size = (n + 1) * 3 + k * 3 := by
  rw [hA0]
  simp only [Array.size_append, List.size_toArray, htk, zs]
  omega
 obtain ⟨W0, hW0⟩ : ∃ W0 : World, W0 = w.drew.alloc (.cells A0 132) := ⟨_, rfl⟩
 rw [← hW0] at hap
 have g0 : W0.heap[w.heap.size]? = some (.cells A0 132 (0, 0)) := by
  rw [hW0]
  exact Array.getElem?_push_size
 have g1 : ∀ q, q < w.heap.size → W0.heap[q]? = w.heap[q]? := fun q hq => by rw [hW0]; exact Below.heap_alloc _ _ q hq
 obtain ⟨A1, hA1⟩ : ∃ A1 : Array Value, A1 = ⟨layL A0.toList (i * 3) vs⟩ := ⟨_, rfl⟩
 have hA1s : A1.size = A0.size := by
  rw [hA1]
  simp only [List.size_toArray]
  rw [layL_length (by rw [hvl]; simp only [Array.length_toList]; omega)]
  simp
 obtain ⟨W1, hW1⟩ : ∃ W1 : World, W1 = { W0 with heap := W0.heap.setIfInBounds w.heap.size (.cells A1 132 (0, 0)) } := ⟨_, rfl⟩
 have h1 : W1.heap[w.heap.size]? = some (.cells A1 132 (0, 0)) := by
  have : w.heap.size < W0.heap.size := by rw [hW0]; simp [World.alloc]
  rw [hW1]; simp only [Array.getElem?_setIfInBounds_self, if_pos this]
 have h1o : ∀ q, q < w.heap.size → W1.heap[q]? = w.heap[q]? := fun q hq => by
  rw [hW1]
  have : w.heap.size ≠ q := by omega
  simp only [Array.getElem?_setIfInBounds_ne this]
  exact g1 q hq
 have hcp1 : ∀ ty dc, (Builtin.copy_ #[305, 65] ty #[.slice (some ⟨w.heap.size, i * 3, none⟩) (n + 1 - i) dc, .slice (some ⟨vb, voff, none⟩) 1 vc]).run Tryz.prog W0 = .ok (goInt (1 : Nat)) W1 := fun ty dc => by
  refine run_copy3 (e := 132) (size := 3) (V := vs) rfl Tryz.underlying305 Tryz.sizeOf132 (by simp only [Nat.min_def]; split <;> omega) ?_ ?_
  ·exact loads3 (w := W0) (t := tA) (fr := frA) (C := D) (by rw [g1 vb hvw]; exact hA) hvl hvs
  ·have := run_storeCells (P := Tryz.prog) (w := W0) g0 (fun j _ q => by omega) vs (i * 3) 0 h1v (by omega)
   refine this.trans ?_
   rw [hW1, hA1]
   simp only [Nat.add_zero]
 have hdl : (cs.drop (i * 3)).length = (n - i) * 3 := by rw [List.length_drop, hcl]; omega
 obtain ⟨A2, hA2⟩ : ∃ A2 : Array Value, A2 = ⟨layL A1.toList ((i + 1) * 3) (cs.drop (i * 3))⟩ := ⟨_, rfl⟩
 have hA2s : A2.size = A0.size := by
  rw [hA2]
  simp only [List.size_toArray]
  rw [layL_length (by rw [hdl]; simp only [Array.length_toList]; omega)]
  simp [hA1s]
 obtain ⟨W2, hW2⟩ : ∃ W2 : World, W2 = { W1.drew with heap := W1.heap.setIfInBounds w.heap.size (.cells A2 132 (0, 0)) } := ⟨_, rfl⟩
 have hcp2 : ∀ ty dc sc, (Builtin.copy_ #[305, 305] ty #[.slice (some ⟨w.heap.size, (i + 1) * 3, none⟩) (n - i) dc, .slice (some ⟨b, off + i * 3, none⟩) (n - i) sc]).run Tryz.prog W1.drew = .ok (goInt (n - i : Nat)) W2 := fun ty dc sc => by
  refine run_copy3 (e := 132) (size := 3) (V := cs.drop (i * 3)) rfl Tryz.underlying305 Tryz.sizeOf132 (by simp only [Nat.min_def]; split <;> omega) ?_ ?_
  ·refine loads3 (w := W1.drew) (t := t) (fr := fr) (C := C) ((h1o b hbw).trans hb) hdl (fun j v hj => by
    rw [List.getElem?_drop] at hj
    have := hcs _ v hj
    rwa [← Nat.add_assoc] at this)
  ·have := run_storeCells (P := Tryz.prog) (w := W1.drew) h1 (fun j _ q => by omega) (cs.drop (i * 3)) ((i + 1) * 3) 0 (allOne_iff.2 fun v hv => allOne_iff.1 h1c v (List.mem_of_mem_drop hv)) (by omega)
   refine this.trans ?_
   rw [hW2, hA2]
   rfl
 have hfin : W2.heap = w.heap.push (.cells A2 132 (0, 0)) ∧ W2.os = w.os ∧ W2.tape = w.tape ∧ W2.output = w.output := by
  rw [hW2, hW1, hW0]
  refine ⟨?_, rfl, rfl, rfl⟩
  simp only [Array.setIfInBounds_setIfInBounds]
  apply Array.ext_getElem?
  intro q
  rw [Array.getElem?_setIfInBounds]
  simp only [World.alloc]
  by_cases e : w.heap.size = q
  ·subst e; simp
  ·rw [if_neg e]
   simp only [World.drew]
   rw [Array.getElem?_push, Array.getElem?_push]
   rw [if_neg (by omega), if_neg (by omega)]
 have hget : ∀ (j : Nat) (v : Value), (cs.take (i * 3) ++ vs ++ cs.drop (i * 3))[j]? = some v → A2[j]? = some v := by
  intro j v hj
  rw [hA2]
  simp only [List.getElem?_toArray]
  rw [layL_get (by rw [hdl]; simp only [Array.length_toList]; omega)]
  rcases Nat.lt_or_ge j ((i + 1) * 3) with q | q
  ·rw [if_pos q, hA1]
   simp only
   rw [layL_get (by rw [hvl]; simp only [Array.length_toList]; omega)]
   rw [List.getElem?_append_left (by rw [List.length_append, htk, hvl]; omega)] at hj
   rcases Nat.lt_or_ge j (i * 3) with q2 | q2
   ·rw [if_pos q2]
    rw [List.getElem?_append_left (by rw [htk]; omega)] at hj
    rw [hA0]
    simp only [Array.toList_append, List.append_assoc]
    rw [List.getElem?_append_left (by simp only [htk]; omega)]
    exact hj
   ·rw [if_neg (by omega), if_pos (by omega)]
    rw [List.getElem?_append_right (by rw [htk]; omega), htk] at hj
    exact hj
  ·have hlt : j < (cs.take (i * 3) ++ vs ++ cs.drop (i * 3)).length := by
    rcases Nat.lt_or_ge j (cs.take (i * 3) ++ vs ++ cs.drop (i * 3)).length with h | h
    ·exact h
    ·rw [List.getElem?_eq_none h] at hj; cases hj
   simp only [List.length_append, htk, hvl, hdl] at hlt
   rw [if_neg (by omega), if_pos (by rw [hdl]; omega)]
   rw [List.getElem?_append_right (by rw [List.length_append, htk, hvl]; omega), List.length_append, htk, hvl] at hj
   rw [← hj]
   congr 1
   omega
 have hfz : (n + 1) * 3 + k * 3 ≤ A2.size := by omega
 have hw1 : IntKind.i64.wrap ((i : Int) + 1) = (i : Int) + 1 := by rw [IntKind.wrap_i64]; unfold appendMax at hn; omega
 have hw2 : IntKind.i64.wrap ((n : Int) + 1) = (n : Int) + 1 := by rw [IntKind.wrap_i64]; unfold appendMax at hn; omega
 have hw3 : IntKind.i64.wrap ((n : Int) + 1 - (i : Int)) = (n : Int) + 1 - (i : Int) := by rw [IntKind.wrap_i64]; unfold appendMax at hn; omega
 have hb1 : (0 : Int) ≤ (i : Int) + 1 := by omega
 have hin : i ≤ n := by omega
 have htn : ((i : Int) + 1).toNat = i + 1 := by omega
 have hb2 : ¬ (n + 1 + k = i + 1) := by omega
 have hb3 : (i : Int) ≤ (n : Int) + 1 := by omega
 have hb4 : ¬ (c = i) := by omega
 have hb5 : (c : Int) < (n : Int) + 1 := by omega
 have hb6 : ¬ (n + 1 + k = i) := by omega
 have hb7 : i ≤ n + 1 := by omega
 have mixed : Tryz.prog.follows .mixedOrders = true := by kernel_rfl
 obtain ⟨G, hG⟩ : ∃ G, G = n + 1 + k := ⟨_, rfl⟩
 have hG1 : n + 1 ≤ G := by omega
 rw [← hG] at hap hb2 hb6
 have hG2 : k = G - (n + 1) := by omega
 clear hG
 rw [hG2] at hfz
 clear hG2
 clear hW1 hW2 hW0 hA1 hA2 hA0 hA1s hA2s hA0s g0 g1 h1 h1o hb hA hcs hvs hcl hvl h1c h1v hdl zs htk hZ hZs hZv hinf hbytes hii hin1
 go_enter Tryz.func206, Tryz.ntmps206
 go_wp2_with (first
  | (at_builtin; refine Lib.wpList_append_run _ rfl _ _ _ _ rfl _ _ rfl rfl _ _ hap ?_)
  | (at_builtin; refine wpList_copy_runI _ rfl _ _ 305 65 rfl _ _ rfl rfl (hcp1 _ _) ?_))
 go_region_law_o (refine step_copy_runI rfl _ _ 305 305 rfl _ _ (by simp [Act.eval, Act.put]) (by simp [Act.eval, Act.put]) (hcp2 _ _ _) ?_)
 go_wp2
 go_ret
 exact ⟨G - (n + 1), A2, by rw [show n + 1 + (G - (n + 1)) = G by omega]; rfl, hfin.1, hfin.2.1, hfin.2.2.1, hfin.2.2.2, hfz, hget⟩

end Go.Proofs.YthknocapablpaaaGreatDoor

/- slices.Insert of one cell of a page, as a summary. -/
namespace Go.Proofs.YthknocapablpaaaGreatDoor
open Go.RowKit Go.Lib Go.Eng

set_option maxHeartbeats 4000000 in
set_option maxRecDepth 100000 in
theorem insert_end (b off n c vb voff vc : Nat) (u : Value) (w w1 : World)
  (h : (Builtin.append_ #[305, 65] 305 #[.slice (some ⟨b, off, none⟩) n c, .slice (some ⟨vb, voff, none⟩) 1 vc]).run Tryz.prog w = .ok u w1) :
  Calls Tryz.prog 206 #[.slice (some ⟨b, off, none⟩) n c, .int .i64 n, .slice (some ⟨vb, voff, none⟩) 1 vc] w fun e w' => e = .returned u ∧ w' = w1 := by
 have mixed : Tryz.prog.follows .mixedOrders = true := by kernel_rfl
 have hnn : n ≤ n := Nat.le_refl _
 go_enter Tryz.func206, Tryz.ntmps206
 go_wp2_with (at_builtin; refine Lib.wpList_append_run _ rfl _ _ _ _ rfl _ _ rfl rfl _ _ h ?_)
 all_goals
  go_ret
  exact ⟨rfl, rfl⟩

set_option maxHeartbeats 4000000 in
set_option maxRecDepth 100000 in
theorem insert_nil (vb voff vc : Nat) (u : Value) (w w1 : World)
  (h : (Builtin.append_ #[305, 65] 305 #[.slice none 0 0, .slice (some ⟨vb, voff, none⟩) 1 vc]).run Tryz.prog w = .ok u w1) :
  Calls Tryz.prog 206 #[.slice none 0 0, .int .i64 0, .slice (some ⟨vb, voff, none⟩) 1 vc] w fun e w' => e = .returned u ∧ w' = w1 := by
 have mixed : Tryz.prog.follows .mixedOrders = true := by kernel_rfl
 go_enter Tryz.func206, Tryz.ntmps206
 go_wp2_with (at_builtin; refine Lib.wpList_append_run _ rfl _ _ _ _ rfl _ _ rfl rfl _ _ h ?_)
 go_ret
 exact ⟨rfl, rfl⟩

noncomputable section
def outC : Option Out → Option CRes
 | some (.val v h c) => some (.mk v h c)
 | _ => none
/-- slices.Insert of one cell. -/
def insS (args : List AV) (h : Heap) (c : Nat) : Option CRes := match args with
 | [s, .int .i64 (.ofNat i), .slice n' o' 1 cp fl'] => match s with
  | .nils => bif Nat.beq i 0 then outC (aAppend Tryz.prog h c 305 (some 65) .nils (.slice n' o' 1 cp fl')) else none
  | .slice n o len cap fl => bif Nat.ble (len + 1) appendMax && Nat.ble len cap then
    bif Nat.beq i len then outC (aAppend Tryz.prog h c 305 (some 65) (.slice n o len cap fl) (.slice n' o' 1 cp fl'))
    else bif Nat.ble (i + 1) len && fl && !Nat.beq n n' && Nat.beq o 0 then
     (cells? h n).bind fun tc => (row? tc.2 o (len * 3)).bind fun r => (cells? h n').bind fun tc' => (row? tc'.2 o' 3).bind fun vs =>
      bif Nat.beq tc.1 132 && Nat.beq tc'.1 132 && Nat.beq (o + cap * 3) tc.2.length then
       outC (putObj h n none fun h => newCells h c 132 (r.take (i * 3) ++ vs ++ r.drop (i * 3)) (.slice c 0 (len + 1) (len + 1) true))
      else none
    else none
   else none
  | _ => none
 | _ => none
end

theorem outC_some {o : Option Out} {v : AV} {h : Heap} {c : Nat} (e : outC o = some (.mk v h c)) : o = some (.val v h c) := by
 unfold outC at e
 split at e
 ·cases e; rfl
 ·cases e

theorem block_at {η : Env} {σ : Sig} {h : Heap} {c n t : Nat} {cs : List AV} {w : World} (H : HR Tryz.prog σ η h c w) (hn : cells? h n = some (t, cs)) {l : Eng.Loc} (hl : σ n = some l) : ObjR Tryz.prog σ η w l (.cells t cs) := by
 obtain ⟨l', hl', ob⟩ := H.obj n _ (cells?_iff.1 hn)
 rw [hl] at hl'; cases hl'; exact ob

theorem row_in {η : Env} {σ : Sig} {l : Eng.Loc} {cs r : List AV} {o k : Nat} {C : Array Value} {us : List Value} (h3 : concs σ η cs = some us) (h4 : allOne us = true) (h5 : ∀ i v, us[i]? = some v → C[l.off + i]? = some v) (hr : row? cs o k = some r) :
  ∃ rs, concs σ η r = some rs ∧ allOne rs = true ∧ rs.length = k ∧ ∀ j v, rs[j]? = some v → C[l.off + o + j]? = some v := by
 obtain ⟨k1, k2, k3⟩ := concs_row h3 hr
 have hlen : ((us.drop o).take k).length = k := by rw [concs_length k1]; exact k2
 refine ⟨_, k1, allOne_iff.2 fun v hv => allOne_iff.1 h4 v (List.mem_of_mem_drop (List.mem_of_mem_take hv)), hlen, fun i v hv => ?_⟩
 rw [List.getElem?_take] at hv
 split at hv
 ·rw [List.getElem?_drop] at hv
  have := h5 _ _ hv
  rwa [← Nat.add_assoc] at this
 ·cases hv

theorem ins_ok {η : Env} {args : List AV} {h : Heap} {c : Nat} {v : AV} {h' : Heap} {c' : Nat} (he : insS args h c = some (.mk v h' c')) {σ : Sig} {w : World} {avs : List Value} (H : HR Tryz.prog σ η h c w) (ha : concs σ η args = some avs) : Calls Tryz.prog 206 avs.toArray w (Done Tryz.prog η σ h c w v h' c') := by
 unfold insS at he
 split at he
 rotate_left
 ·cases he
 rename_i s i n' o' cp fl'
 obtain ⟨sv, r1, hs, hr1, rfl⟩ := concs_cons.1 ha
 obtain ⟨iv, r2, hiv, hr2, rfl⟩ := concs_cons.1 hr1
 obtain ⟨xv, r3, hx, hr3, rfl⟩ := concs_cons.1 hr2
 simp only [concs, Option.some.injEq] at hr3
 subst hr3
 rw [conc_int] at hiv
 subst hiv
 obtain ⟨l', hl', rfl⟩ := conc_slice.1 hx
 split at he
 ·-- nil
  rw [conc_nils] at hs
  subst hs
  cases hi : Nat.beq i 0 with
  | false => simp [hi] at he
  | true =>
  simp only [hi, cond_true] at he
  have hi := Nat.eq_of_beq_eq_true hi
  subst hi
  have hap := aAppend_ok («as» := #[305, 65]) (vs := #[.slice none 0 0, .slice (some ⟨l'.blk, l'.off + o', none⟩) 1 (cp + (if fl' then l'.slack else 0))]) (ty := 305) (outC_some he) H (conc_nils.2 rfl) hx rfl rfl rfl rfl
  obtain ⟨u, σ', w', q1, q2, q3⟩ := hap
  refine Calls.mono (insert_nil _ _ _ u w w' q3) ?_
  rintro e w2 ⟨rfl, rfl⟩
  exact ⟨u, σ', rfl, q1, q2⟩
 ·rename_i n o len cap fl
  cases h0 : (Nat.ble (len + 1) appendMax && Nat.ble len cap) with
  | false => simp [h0] at he
  | true =>
  simp only [h0, cond_true] at he
  rw [Bool.and_eq_true] at h0
  have hlen := Nat.le_of_ble_eq_true h0.1
  have hcap := Nat.le_of_ble_eq_true h0.2
  obtain ⟨l, hl, rfl⟩ := conc_slice.1 hs
  cases hi : Nat.beq i len with
  | true =>
   simp only [hi, cond_true] at he
   have hi := Nat.eq_of_beq_eq_true hi
   subst hi
   have hap := aAppend_ok («as» := #[305, 65]) (vs := #[.slice (some ⟨l.blk, l.off + o, none⟩) i (cap + (if fl then l.slack else 0)), .slice (some ⟨l'.blk, l'.off + o', none⟩) 1 (cp + (if fl' then l'.slack else 0))]) (ty := 305) (outC_some he) H hs hx rfl rfl rfl rfl
   obtain ⟨u, σ', w', q1, q2, q3⟩ := hap
   refine Calls.mono (insert_end _ _ _ _ _ _ _ u w w' q3) ?_
   rintro e w2 ⟨rfl, rfl⟩
   exact ⟨u, σ', rfl, q1, q2⟩
  | false =>
   simp only [hi, cond_false] at he
   cases h1 : (Nat.ble (i + 1) len && fl && !Nat.beq n n' && Nat.beq o 0) with
   | false => simp [h1] at he
   | true =>
   simp only [h1, cond_true, Option.bind_eq_some_iff] at he
   rw [Bool.and_eq_true, Bool.and_eq_true, Bool.and_eq_true, Bool.not_eq_true'] at h1
   have hil := Nat.le_of_ble_eq_true h1.1.1.1
   have hfl := h1.1.1.2
   subst hfl
   have hnn : n ≠ n' := fun e => by subst e; simp at h1
   have ho0 : o = 0 := Nat.eq_of_beq_eq_true h1.2
   have hom : o % 3 = 0 := by rw [ho0]
   obtain ⟨⟨t, cs⟩, hc, r, hr, ⟨t', cs'⟩, hc', vs, hvs, he⟩ := he
   cases h2 : (Nat.beq t 132 && Nat.beq t' 132 && Nat.beq (o + cap * 3) cs.length) with
   | false => simp [h2] at he
   | true =>
   simp only [h2, cond_true] at he
   rw [Bool.and_eq_true, Bool.and_eq_true] at h2
   have ht := Nat.eq_of_beq_eq_true h2.1.1
   have ht' := Nat.eq_of_beq_eq_true h2.1.2
   subst ht
   have hcl := Nat.eq_of_beq_eq_true h2.2
   have he := outC_some he
   obtain ⟨hb, he⟩ := putObj_ok he
   obtain ⟨C, fr, us, k1, k2, k3, k4, k5, k6, k7⟩ := block_at H hc hl
   obtain ⟨D, frD, us', m1, m2, m3, m4, m5, m6, m7⟩ := block_at H hc' hl'
   obtain ⟨RS, r1, r2, r3, r4⟩ := row_in k3 k4 k5 hr
   obtain ⟨VS, v1, v2, v3, v4⟩ := row_in m3 m4 m5 hvs
   have hus : us.length = o + cap * 3 := by rw [concs_length k3]; exact hcl.symm
   have hc133 : Tryz.prog.cellsOf 132 = 3 := by kernel_rfl
   rw [hc133] at k6 k7
   have hnew : concs σ η (r.take (i * 3) ++ vs ++ r.drop (i * 3)) = some (RS.take (i * 3) ++ VS ++ RS.drop (i * 3)) := concs_append (concs_append (concs_take _ r1) v1) (concs_drop _ r1)
   have hnew1 : allOne (RS.take (i * 3) ++ VS ++ RS.drop (i * 3)) = true := allOne_append.2 ⟨allOne_append.2 ⟨allOne_iff.2 fun v hv => allOne_iff.1 r2 v (List.mem_of_mem_take hv), v2⟩, allOne_iff.2 fun v hv => allOne_iff.1 r2 v (List.mem_of_mem_drop hv)⟩
   have hnewl : (RS.take (i * 3) ++ VS ++ RS.drop (i * 3)).length = (len + 1) * 3 := by simp only [List.length_append, List.length_take, List.length_drop, r3, v3]; omega
   simp only [if_true]
   by_cases hroom : len + 1 ≤ cap + l.slack
   ·-- in place
    have hfe : w.frozen? ⟨l'.blk, D.size, none⟩ = false := by
     simp only [World.frozen?, m1]
     have hD : D.size < lim Tryz.prog t' D.size := by rw [ht']; unfold lim; rw [show isU8 Tryz.prog 132 = false by kernel_rfl]; simp
     simpa using m2 D.size hD
    refine Calls.mono (insert_shift l.blk (l.off + o) len (cap + l.slack) i l'.blk (l'.off + o') _ C D 132 t' fr frD RS VS w k1 (fun j hj => k2 j (Nat.lt_of_lt_of_le hj lim_le)) m1 (fun j hj => m2 j (Nat.lt_of_lt_of_le hj lim_le)) hfe (fun e => hnn (H.inj n n' l l' (by rw [cells?_iff.1 hc]; rfl) (by rw [cells?_iff.1 hc']; rfl) hl hl' e.symm)) (by omega) hroom (by omega) (by omega) r3 r4 r2 v3 v4 v2) ?_
    rintro e w' ⟨rfl, rfl⟩
    unfold newCells fCells at he
    rw [fAVs_eq] at he
    obtain ⟨hcb, he⟩ := putObj_ok he
    rw [fNat_eq] at he
    cases he
    have hlt : l.blk < w.heap.size := by
     rcases Nat.lt_or_ge l.blk w.heap.size with h | h
     ·exact h
     ·rw [Array.getElem?_eq_none h] at k1; cases k1
    have hd : (RS.drop (i * 3)).length = (len - i) * 3 := by rw [List.length_drop, r3]; omega
    have ht : (RS.take (i * 3)).length = i * 3 := by rw [List.length_take, r3]; omega
    have s1 := layL_length (L := C.toList) (V := RS.drop (i * 3)) (o := l.off + o + (i + 1) * 3) (by rw [hd]; simp only [Array.length_toList]; omega)
    have s2 := layL_length (L := layL C.toList (l.off + o + (i + 1) * 3) (RS.drop (i * 3))) (V := VS) (o := l.off + o + i * 3) (by rw [s1, v3]; simp only [Array.length_toList]; omega)
    have wt := move_ok (P := Tryz.prog) (l' := ⟨l.blk, l.off + o, cap + l.slack - (len + 1)⟩) (o := .cells 132 (r.take (i * 3) ++ vs ++ r.drop (i * 3))) (O := .cells ⟨layL (layL C.toList (l.off + o + (i + 1) * 3) (RS.drop (i * 3))) (l.off + o + i * 3) VS⟩ 132 fr) H hb hcb hl (by rw [cells?_iff.1 hc]; rfl) rfl (by rw [ho0]; rfl) rfl
     ⟨⟨layL (layL C.toList (l.off + o + (i + 1) * 3) (RS.drop (i * 3))) (l.off + o + i * 3) VS⟩, fr, RS.take (i * 3) ++ VS ++ RS.drop (i * 3), by simp only [Array.getElem?_setIfInBounds_self, if_pos hlt], fun j hj => k2 j (by
       have : j < lim Tryz.prog 132 (layL (layL C.toList (l.off + o + (i + 1) * 3) (RS.drop (i * 3))) (l.off + o + i * 3) VS).length := by simpa using hj
       rw [s2, s1] at this; simpa using this), concs_ext (ext_upd (H.new c (Nat.le_refl _))) hnew, hnew1, fun j y hj => ?_, ?_⟩
    ·refine ⟨_, _, rfl, conc_slice.2 ⟨_, upd_same _ _ _, ?_⟩, wt.heap rfl rfl rfl rfl⟩
     simp only [if_true]
     rw [show len + 1 + (cap + l.slack - (len + 1)) = cap + l.slack by omega]
     rfl
    ·simp only [List.getElem?_toArray]
     rw [layL_get (by rw [s1, v3]; simp only [Array.length_toList]; omega), layL_get (by rw [hd]; simp only [Array.length_toList]; omega)]
     rcases Nat.lt_or_ge j ((i + 1) * 3) with q | q
     ·rw [List.getElem?_append_left (by rw [List.length_append, ht, v3]; omega)] at hj
      rcases Nat.lt_or_ge j (i * 3) with q2 | q2
      ·rw [List.getElem?_append_left (by rw [ht]; omega)] at hj
       rw [if_pos (by omega), if_pos (by omega)]
       rw [List.getElem?_take] at hj
       rw [if_pos q2] at hj
       simpa using r4 j y hj
      ·rw [List.getElem?_append_right (by rw [ht]; omega), ht] at hj
       rw [if_neg (by omega), if_pos (by omega), ← hj, show l.off + o + j - (l.off + o + i * 3) = j - i * 3 by omega]
     ·have hjl : j < (RS.take (i * 3) ++ VS ++ RS.drop (i * 3)).length := by
       rcases Nat.lt_or_ge j (RS.take (i * 3) ++ VS ++ RS.drop (i * 3)).length with h | h
       ·exact h
       ·rw [List.getElem?_eq_none h] at hj; cases hj
      rw [hnewl] at hjl
      rw [List.getElem?_append_right (by rw [List.length_append, ht, v3]; omega), List.length_append, ht, v3] at hj
      rw [if_neg (by omega), if_neg (by omega), if_neg (by omega), if_pos (by rw [hd]; omega), ← hj, show l.off + o + j - (l.off + o + (i + 1) * 3) = j - (i * 3 + 3) by omega]
    ·simp only [List.size_toArray]
     rw [s2, s1, hnewl, hc133]
     simp only [Array.length_toList]
     exact ⟨by omega, by rw [Nat.add_mod, k7, hom]⟩
   ·-- a new row
    refine Calls.mono (insert_grow l.blk (l.off + o) len (cap + l.slack) i l'.blk (l'.off + o') _ C D 132 t' fr frD RS VS w k1 m1 (by omega) (by omega) (by omega) (by omega) r3 r4 r2 v3 v4 v2) ?_
    rintro e w' ⟨k, A, rfl, g1, g2, g3, g4, g5, g6⟩
    have wk := kill_ok H hb
    have := newCells_ok (sl := k) (w' := w') (C := A) (fr := (0, 0)) he wk.rel hnew hnew1 g6 (by rw [hc133, hnewl]; exact g5) (fun j _ q => by omega) g1 g2 g3 g4
    obtain ⟨rfl, wt⟩ := this
    exact ⟨_, _, rfl, conc_slice.2 ⟨_, upd_same _ _ _, rfl⟩, wk.trans wt⟩
 ·cases he

end Go.Proofs.YthknocapablpaaaGreatDoor

/- slices.Insert of one cell into a page that begins its block. -/
namespace Go.Proofs.YthknocapablpaaaGreatDoor
open Go.RowKit Go.Lib Go.Eng

theorem cellsC_take : ∀ (l : List Cel) (k : Nat), (cellsC l).take (k * 3) = cellsC (l.take k)
 | [], k => by simp [cellsC]
 | c :: l, 0 => by simp [cellsC]
 | c :: l, k + 1 => by
  rw [show (k + 1) * 3 = k * 3 + 1 + 1 + 1 by omega]
  simp only [cellsC, List.cons_append, List.nil_append, List.take_succ_cons]
  rw [cellsC_take l k]
theorem cellsC_drop : ∀ (l : List Cel) (k : Nat), (cellsC l).drop (k * 3) = cellsC (l.drop k)
 | [], k => by simp [cellsC]
 | c :: l, 0 => by simp [cellsC]
 | c :: l, k + 1 => by
  rw [show (k + 1) * 3 = k * 3 + 1 + 1 + 1 by omega]
  simp only [cellsC, List.cons_append, List.nil_append, List.drop_succ_cons]
  rw [cellsC_drop l k]
theorem cellsC_get : ∀ (l : List Cel) (x : Nat) (c : Cel), l[x]? = some c → (cellsC l)[x * 3]? = some (.string c.k) ∧ (cellsC l)[x * 3 + 1]? = some (.int .i64 c.s) ∧ (cellsC l)[x * 3 + 2]? = some (.string c.v)
 | [], x, c, h => by simp at h
 | d :: l, 0, c, h => by simp at h; subst h; simp [cellsC]
 | d :: l, x + 1, c, h => by
  rw [show (x + 1) * 3 = x * 3 + 1 + 1 + 1 by omega, show x * 3 + 1 + 1 + 1 + 1 = (x * 3 + 1) + 1 + 1 + 1 by omega, show x * 3 + 1 + 1 + 1 + 2 = (x * 3 + 2) + 1 + 1 + 1 by omega]
  simp only [cellsC, List.cons_append, List.nil_append, List.getElem?_cons_succ]
  exact cellsC_get l x c (by simpa using h)
/-- What two layings in one row leave of it. -/
theorem lay_shift {A vs r : List Value} {a : Nat} (h : a + vs.length + r.length ≤ A.length) : (layL (layL A (a + vs.length) r) a vs).take (a + vs.length + r.length) = A.take a ++ vs ++ r := by
 have e1 : (layL A (a + vs.length) r).take a = A.take a := by
  unfold layL
  rw [List.append_assoc, List.take_append_of_le_length (by rw [List.length_take]; omega), List.take_take, Nat.min_eq_left (by omega)]
 have e2 : (layL A (a + vs.length) r).drop (a + vs.length) = r ++ A.drop (a + vs.length + r.length) := by
  have e3 : (A.take (a + vs.length)).length = a + vs.length := by rw [List.length_take]; omega
  unfold layL
  rw [List.append_assoc]
  exact List.drop_left' e3
 have e4 : (A.take a ++ vs ++ r).length = a + vs.length + r.length := by simp only [List.length_append, List.length_take]; omega
 generalize layL A (a + vs.length) r = B at e1 e2 ⊢
 unfold layL
 rw [e1, e2, ← List.append_assoc, ← e4, List.take_left]
theorem take_of_get {L A : List Value} (_ : L.length ≤ A.length) (h : ∀ (j : Nat) (v : Value), L[j]? = some v → A[j]? = some v) : A.take L.length = L := by
 apply List.ext_getElem?
 intro j
 rw [List.getElem?_take]
 split
 ·rename_i hj
  rw [List.getElem?_eq_getElem hj]
  exact h j _ (List.getElem?_eq_getElem hj)
 ·rename_i hj
  rw [List.getElem?_eq_none (by omega)]
/-- A page in memory: it begins its block. -/
def PgB (w : World) (p : Pg) : Prop := p.o = 0 ∧ p.l ≠ [] ∧ RowB w 132 3 p.g p.l.length p.cap (cellsC p.l)
theorem PgB.kept {S : Nat → Prop} {w w' : World} {p : Pg} (h : PgB w p) (K : Kept S w w') (hS : ¬ S p.g) : PgB w' p := ⟨h.1, h.2.1, h.2.2.kept K hS⟩
theorem PgB.ok {w : World} {p : Pg} (h : PgB w p) : p.Ok w := by
 refine ⟨h.2.1, fun x c hc => ?_⟩
 obtain ⟨h1, h2, h3⟩ := cellsC_get p.l x c hc
 rw [h.1, Nat.zero_add]
 exact ⟨h.2.2.cell h1, h.2.2.cell h2, h.2.2.cell h3⟩
def insAt (l : List Cel) (i : Nat) (c : Cel) : List Cel := l.take i ++ c :: l.drop i
theorem insAt_length {l : List Cel} {i : Nat} {c : Cel} (h : i ≤ l.length) : (insAt l i c).length = l.length + 1 := by
 unfold insAt; simp; omega
theorem insAt_ne (l : List Cel) (i : Nat) (c : Cel) : insAt l i c ≠ [] := by
 unfold insAt; simp
theorem cellsC_ins (l : List Cel) (i : Nat) (c : Cel) : cellsC (insAt l i c) = (cellsC l).take (i * 3) ++ cellsC [c] ++ (cellsC l).drop (i * 3) := by
 unfold insAt
 rw [cellsC_take, cellsC_drop, show c :: l.drop i = [c] ++ l.drop i from rfl, cellsC_append, cellsC_append, List.append_assoc]
theorem pinsert_any {w : World} {p : Pg} {i vb vc : Nat} {c : Cel} (H : PgB w p) (hm : p.l.length ≤ 1000) (hi : i ≤ p.l.length) (hA : w.heap[vb]? = some (.cells #[.string c.k, .int .i64 c.s, .string c.v] 132 (0, 0))) (hne : vb ≠ p.g) :
  Calls Tryz.prog 206 #[p.val, .int .i64 i, .slice (some ⟨vb, 0, none⟩) 1 vc] w fun e w' => ∃ p' : Pg, e = .returned p'.val ∧ p'.l = insAt p.l i c ∧ PgB w' p' ∧ (p'.g = p.g ∨ w.heap.size ≤ p'.g) ∧ Kept (fun b => b = p.g) w w' := by
 obtain ⟨g, o, l, cap⟩ := p
 obtain ⟨h0, h1, hR⟩ := H
 simp only at h0 h1 hR hm hi hne ⊢
 subst h0
 unfold Pg.val
 simp only
 obtain ⟨i0, hi0, z0, s0, b0⟩ := info_132
 have hlen : (cellsC l).length = l.length * 3 := cellsC_length l
 have hlc : (cellsC [c]).length = 3 := by rw [cellsC_length]; rfl
 have hone : allOne (cellsC l) = true := allOne_iff.2 (cellsC_one _)
 have hone1 : allOne (cellsC [c]) = true := allOne_iff.2 (cellsC_one _)
 have hvs : ∀ (j : Nat) (v : Value), (cellsC [c])[j]? = some v → (#[Value.string c.k, .int .i64 c.s, .string c.v])[0 + j]? = some v := fun j v hj => by
  rw [Nat.zero_add]
  simpa [cellsC] using hj
 have hvb : vb < w.heap.size := (Array.getElem?_eq_some_iff.1 hA).1
 rcases Nat.lt_or_ge i l.length with hlt | hge
 ·have hR' := hR
  obtain ⟨_, h2, C, hg, h3, h4⟩ := hR
  have hcs : ∀ (j : Nat) (v : Value), (cellsC l)[j]? = some v → C[0 + j]? = some v := fun j v hj => by
   rw [← h4, List.getElem?_take] at hj
   split at hj
   ·rw [Nat.zero_add]; simpa using hj
   ·cases hj
  have e4 : (cellsC (insAt l i c)).length = (l.length + 1) * 3 := by rw [cellsC_length, insAt_length (by omega)]
  rcases Nat.lt_or_ge cap (l.length + 1) with hc | hc
  ·refine (insert_grow g 0 l.length cap i vb 0 vc C _ 132 132 (0, 0) (0, 0) (cellsC l) (cellsC [c]) w hg hA hlt (by unfold appendMax; omega) h2 hc hlen hcs hone hlc hvs hone1).mono ?_
   rintro e w' ⟨k, A, rfl, hh, e1, e2, e3, hs, hget⟩
   rw [← cellsC_ins] at hget
   refine ⟨⟨w.heap.size, 0, insAt l i c, l.length + 1 + k⟩, by simp only [insAt_length (show i ≤ l.length by omega)], rfl, ⟨rfl, insAt_ne _ _ _, cellsC_length _, ?_, A, ?_, ?_, ?_⟩, .inr (Nat.le_refl _), ⟨e1, e2, e3, by rw [hh]; simp, fun q hq _ => by rw [hh, Array.getElem?_push]; rw [if_neg (by omega)]⟩⟩
   ·rw [insAt_length (by omega)]; simp only; omega
   ·rw [hh]; exact Array.getElem?_push_size
   ·simp only; omega
   ·rw [← cellsC_length]
    exact take_of_get (by rw [e4]; simp only [Array.length_toList]; omega) (fun j v hj => by simpa using hget j v hj)
  ·refine (insert_shift g 0 l.length cap i vb 0 vc C #[.string c.k, .int .i64 c.s, .string c.v] 132 132 (0, 0) (0, 0) (cellsC l) (cellsC [c]) w hg (fun j _ q => absurd q.2 (Nat.not_lt_zero _)) hA (fun j _ q => absurd q.2 (Nat.not_lt_zero _)) (by simp [World.frozen?, hA]) hne hlt hc (by unfold appendMax; omega) (by omega) hlen hcs hone hlc hvs hone1).mono ?_
   rintro e w' ⟨rfl, rfl⟩
   have hgl : g < w.heap.size := (Array.getElem?_eq_some_iff.1 hg).1
   refine ⟨⟨g, 0, insAt l i c, cap⟩, by simp only [insAt_length (show i ≤ l.length by omega)], rfl, ⟨rfl, insAt_ne _ _ _, cellsC_length _, ?_, ⟨layL (layL C.toList (0 + (i + 1) * 3) ((cellsC l).drop (i * 3))) (0 + i * 3) (cellsC [c])⟩, ?_, ?_, ?_⟩, .inl rfl, ⟨rfl, rfl, rfl, by simp, fun q hq hn => Array.getElem?_setIfInBounds_ne (fun e => hn e.symm)⟩⟩
   ·rw [insAt_length (by omega)]; exact hc
   ·simp only [Array.getElem?_setIfInBounds_self, if_pos hgl]
   ·have hd : ((cellsC l).drop (i * 3)).length = (l.length - i) * 3 := by rw [List.length_drop, hlen]; omega
    simp only [List.size_toArray]
    rw [layL_length, layL_length]
    ·simpa using h3
    ·rw [hd]; simp only [Array.length_toList]; omega
    ·rw [layL_length (by rw [hd]; simp only [Array.length_toList]; omega), hlc]; simp only [Array.length_toList]; omega
   ·have hd : ((cellsC l).drop (i * 3)).length = (l.length - i) * 3 := by rw [List.length_drop, hlen]; omega
    have := lay_shift (A := C.toList) (vs := cellsC [c]) (r := (cellsC l).drop (i * 3)) (a := i * 3) (by rw [hlc, hd]; simp only [Array.length_toList]; omega)
    rw [hlc, hd] at this
    simp only [insAt_length (show i ≤ l.length by omega)]
    rw [cellsC_ins, show 0 + (i + 1) * 3 = i * 3 + 3 by omega, Nat.zero_add, show (l.length + 1) * 3 = i * 3 + 3 + (l.length - i) * 3 by omega, this, ← h4, List.take_take, Nat.min_eq_left (by omega)]
 ·have hin : i = l.length := by omega
  subst hin
  obtain ⟨g', cap', w1, hrun, hrow, hgg, K⟩ := rowb_append (ty := 305) Tryz.underlying305 hi0 z0 s0 b0 rfl hR ⟨vb, 0, none⟩ 1 vc (cellsC [c]) (by rw [hlc]) (fun j u hj => by
   rw [add_mid]
   simp only [World.cell?, hA]
   have := hvs j u hj
   simpa using this) (cellsC_one _) (by omega) (by omega)
  rw [← append_types Tryz.underlying305 Tryz.underlying65] at hrun
  refine (insert_end g 0 l.length cap vb 0 vc _ w w1 hrun).mono ?_
  rintro e w' ⟨rfl, rfl⟩
  have he : insAt l l.length c = l ++ [c] := by simp [insAt]
  refine ⟨⟨g', 0, insAt l l.length c, cap'⟩, by simp only [insAt_length (Nat.le_refl _)], rfl, ⟨rfl, insAt_ne _ _ _, ?_⟩, ?_, K.mono (fun k _ h => h.1)⟩
  ·simp only [insAt_length (Nat.le_refl _)]
   rw [he, cellsC_append]
   exact hrow
  ·rcases hgg with h | h
   ·exact .inl h
   ·exact .inr (by simp only; omega)
end Go.Proofs.YthknocapablpaaaGreatDoor

/- slices.Replace of one page by two. -/
namespace Go.Proofs.YthknocapablpaaaGreatDoor
open Go.RowKit Go.Lib Go.Eng

set_option maxHeartbeats 4000000 in
set_option maxRecDepth 100000 in
theorem replace_end (b c k vb vc : Nat) (a' : Option Addr) (c' : Nat) (w w1 : World) (hnc : k + 1 ≤ c) (hn : k ≤ 100000)
  (h : (Builtin.append_ #[206, 206] 206 #[.slice (some ⟨b, 0, none⟩) k c, .slice (some ⟨vb, 0, none⟩) 2 vc]).run Tryz.prog w = .ok (.slice a' (k + 2) c') w1) :
  Calls Tryz.prog 207 #[.slice (some ⟨b, 0, none⟩) (k + 1) c, .int .i64 k, .int .i64 ((k + 1 : Nat) : Int), .slice (some ⟨vb, 0, none⟩) 2 vc] w fun e w' => e = .returned (.slice a' (k + 2) c') ∧ w' = w1 := by
 have mixed : Tryz.prog.follows .mixedOrders = true := by kernel_rfl
 have h1 : ¬ ((k : Int) = ((k + 1 : Nat) : Int)) := by omega
 have h2 : (k : Int) ≤ ((k + 1 : Nat) : Int) := by omega
 have h3 : k ≤ c := by omega
 have h4 : k ≤ k + 1 := by omega
 have h5 : ¬ (((k + 2 : Nat) : Int) < ((k + 1 : Nat) : Int)) := by omega
 have h6 : (0 : Int) ≤ ((k + 1 : Nat) : Int) := by omega
 have h7 : (0 : Int) ≤ (k : Int) := by omega
 have h8 : ((k + 1 : Nat) : Int).toNat = k + 1 := by omega
 have h9 : (((k + 1 : Nat) : Int) ≤ ((k + 1 : Nat) : Int)) := by omega
 have h10 : ((k + 1 : Nat) : Int) ≤ (c : Int) := by omega
 go_enter Tryz.func207, Tryz.ntmps207
 go_wp2_with (at_builtin; refine Lib.wpList_append_run _ rfl _ _ _ _ rfl _ _ rfl rfl _ _ h ?_)
 all_goals
  go_ret
  exact ⟨rfl, rfl⟩

theorem loads1 {w : World} {b o n : Nat} {C : Array Value} {t : TypeId} {fr : Nat × Nat} (hb : w.heap[b]? = some (.cells C t fr)) {cs : List Value} (hcl : cs.length = n) (hcs : ∀ (j : Nat) (v : Value), cs[j]? = some v → C[o + j]? = some v) :
  (loadCells ⟨b, o, none⟩ (n * 1)).run Tryz.prog w = .ok cs.toArray w := by
 rw [Nat.mul_one]
 exact loads3 hb hcl hcs
theorem frozen0 {w : World} {b : Nat} {C : Array Value} {t : TypeId} (hb : w.heap[b]? = some (.cells C t (0, 0))) (j : Nat) : w.frozen? ⟨b, j, none⟩ = false := by
 simp [World.frozen?, hb]
theorem shape0 {w : World} {b : Nat} {C : Array Value} {t : TypeId} {fr : Nat × Nat} (hb : w.heap[b]? = some (.cells C t fr)) : w.shape? b = some (t, C.size) := by
 simp only [World.shape?, hb]
set_option maxHeartbeats 4000000 in
set_option maxRecDepth 100000 in
theorem replace_shift (b d c k vb vc : Nat) (C D : Array Value) (cs vs : List Value) (w : World) (hn : k + d ≤ 100000) (hd : 0 < d) (hnc : k + d + 2 ≤ c) (hcC : c ≤ C.size)
  (hb : w.heap[b]? = some (.cells C 305 (0, 0))) (hA : w.heap[vb]? = some (.cells D 305 (0, 0))) (hne : vb ≠ b)
  (hcl : cs.length = d) (hcs : ∀ (j : Nat) (v : Value), cs[j]? = some v → C[k + 1 + j]? = some v) (h1c : allOne cs = true)
  (hvl : vs.length = 2) (hvs : ∀ (j : Nat) (v : Value), vs[j]? = some v → D[0 + j]? = some v) (h1v : allOne vs = true) :
  Calls Tryz.prog 207 #[.slice (some ⟨b, 0, none⟩) (k + 1 + d) c, .int .i64 k, .int .i64 ((k + 1 : Nat) : Int), .slice (some ⟨vb, 0, none⟩) 2 vc] w fun e w' =>
   e = .returned (.slice (some ⟨b, 0, none⟩) (k + 2 + d) c) ∧ w' = { w.drew.drew with heap := w.heap.setIfInBounds b (.cells ⟨layL (layL C.toList (k + 2) cs) k vs⟩ 305 (0, 0)) } := by
 have hv3 : 2 ≤ D.size := by
  have := hvs 1 _ (List.getElem?_eq_getElem (by omega))
  rcases Nat.lt_or_ge (0 + 1) D.size with h | h
  ·omega
  ·rw [Array.getElem?_eq_none h] at this; cases this
 have hlt : b < w.heap.size := (Array.getElem?_eq_some_iff.1 hb).1
 have hov : ∀ lb cb, (callFunc 289 #[.slice (some ⟨b, k + 2, none⟩) lb cb, .slice (some ⟨vb, 0, none⟩) 2 vc]).run Tryz.prog w.drew = .ok (.value (.bool false)) w.drew := fun lb cb => by
  rw [run_callFunc_extern Tryz.func289 (by kernel_rfl) (by kernel_rfl) (by kernel_rfl) (e := Extern.SlicesOverlaps.overlaps #[206, 206] #[305]) (by kernel_rfl),
   Lib.run_overlaps_apart w.drew 206 305 305 Tryz.underlying206 1 Tryz.sizeOf305 ⟨b, k + 2, none⟩ ⟨vb, 0, none⟩ lb cb 2 vc (Ne.symm hne) 305 305 C.size D.size (shape0 (w := w.drew) hb) (shape0 (w := w.drew) hA) (by omega) (frozen0 (w := w.drew) hb _) (frozen0 (w := w.drew) hb _)]
  rfl
 have hC1s : (layL C.toList (k + 2) cs).length = C.size := by
  rw [layL_length (by rw [hcl]; simp only [Array.length_toList]; omega)]
  simp
 obtain ⟨W1, hW1⟩ : ∃ W1 : World, W1 = { w.drew.drew with heap := w.heap.setIfInBounds b (.cells ⟨layL C.toList (k + 2) cs⟩ 305 (0, 0)) } := ⟨_, rfl⟩
 have hcp1 : ∀ ty dc sc, (Builtin.copy_ #[206, 206] ty #[.slice (some ⟨b, k + 2, none⟩) d dc, .slice (some ⟨b, k + 1, none⟩) d sc]).run Tryz.prog w.drew.drew = .ok (goInt d) W1 := fun ty dc sc => by
  refine run_copy3 (e := 305) (size := 1) (V := cs) rfl Tryz.underlying206 Tryz.sizeOf305 (Nat.min_self _) ?_ ?_
  ·exact loads1 (w := w.drew.drew) (t := 305) (fr := (0, 0)) hb hcl hcs
  ·have := run_storeCells (P := Tryz.prog) (w := w.drew.drew) hb (fun j _ q => absurd q.2 (Nat.not_lt_zero _)) cs (k + 2) 0 h1c (by omega)
   rw [hW1]
   exact this
 obtain ⟨W2, hW2⟩ : ∃ W2 : World, W2 = { w.drew.drew with heap := w.heap.setIfInBounds b (.cells ⟨layL (layL C.toList (k + 2) cs) k vs⟩ 305 (0, 0)) } := ⟨_, rfl⟩
 have hcp2 : ∀ ty dc q, k + 2 + d - k = q → (Builtin.copy_ #[206, 206] ty #[.slice (some ⟨b, k, none⟩) q dc, .slice (some ⟨vb, 0, none⟩) 2 vc]).run Tryz.prog W1 = .ok (goInt (2 : Nat)) W2 := fun ty dc q hq => by
  refine run_copy3 (e := 305) (size := 1) (V := vs) rfl Tryz.underlying206 Tryz.sizeOf305 (by simp only [Nat.min_def]; split <;> omega) ?_ ?_
  ·refine loads1 (w := W1) (t := 305) (fr := (0, 0)) (C := D) ?_ hvl hvs
   rw [hW1]
   simp only [Array.getElem?_setIfInBounds_ne (Ne.symm hne)]
   exact hA
  ·have h1 : W1.heap[b]? = some (.cells ⟨layL C.toList (k + 2) cs⟩ 305 (0, 0)) := by
    rw [hW1]
    simp only [Array.getElem?_setIfInBounds_self, if_pos hlt]
   have := run_storeCells (P := Tryz.prog) (w := W1) h1 (fun j _ q => absurd q.2 (Nat.not_lt_zero _)) vs k 0 h1v (by simp only [List.size_toArray]; omega)
   refine this.trans ?_
   rw [hW2, hW1]
   simp only [Array.setIfInBounds_setIfInBounds, Nat.add_zero]
 rw [← hW2]
 clear hW1 hW2 hC1s hlt hv3 hvs hvl h1v h1c hcs hcl hA hb hne hcC
 have mixed : Tryz.prog.follows .mixedOrders = true := by kernel_rfl
 have h1 : ¬ (((k + 1 : Nat) : Int) = ((k + 1 + d : Nat) : Int)) := by omega
 have h2 : (k : Int) ≤ ((k + 1 : Nat) : Int) := by omega
 have h3 : k ≤ c := by omega
 have h4 : k ≤ k + 1 := by omega
 have h6 : (0 : Int) ≤ ((k + 1 : Nat) : Int) := by omega
 have h7 : (0 : Int) ≤ (k : Int) := by omega
 have h8 : ((k + 1 : Nat) : Int).toNat = k + 1 := by omega
 have h10 : ((k + 1 : Nat) : Int) ≤ (c : Int) := by omega
 have h11 : ((k + 1 : Nat) : Int) ≤ ((k + 1 + d : Nat) : Int) := by omega
 have h12 : ¬ ((k : Int) = ((k + 1 + d : Nat) : Int)) := by omega
 have g1 : ((k : Int) + 2).toNat = k + 2 := by omega
 have g2 : ((k : Int) + 1).toNat = k + 1 := by omega
 have g3 : (0 : Int) ≤ (k : Int) + 2 := by omega
 have g4 : (0 : Int) ≤ (k : Int) + 1 := by omega
 have g5 : (k : Int) + 2 ≤ (k : Int) + 2 + (d : Int) := by omega
 have g6 : (k : Int) + 1 ≤ (k : Int) + 1 + (d : Int) := by omega
 have g7 : ¬ (c = k + 2) := by omega
 have g8 : ¬ (c = k + 1) := by omega
 have g9 : k + 2 + d - (k + 2) = d := by omega
 have g10 : k + 1 + d - (k + 1) = d := by omega
 have g11 : (k : Int) ≤ (k : Int) + 2 + (d : Int) := by omega
 have g12 : ¬ (c = k) := by omega
 have h20 : IntKind.i64.wrap ((k : Int) + 2) = ((k + 2 : Nat) : Int) := by rw [IntKind.wrap_i64]; omega
 have h21 : IntKind.i64.wrap (((k + 2 : Nat) : Int) + (d : Int)) = ((k + 2 + d : Nat) : Int) := by rw [IntKind.wrap_i64]; omega
 go_enter Tryz.func207, Tryz.ntmps207
 go_wp2_with fail
 go_region_o
 go_wp2_with (simp only [hov])
 go_region_law_o (refine step_copy_runI rfl _ _ 206 206 rfl _ _ (by simp [Act.eval, Act.put]) (by simp [Act.eval, Act.put]) (hcp1 _ _ _) ?_)
 go_wp2_with (at_builtin; refine wpList_copy_runI _ rfl _ _ 206 206 rfl _ _ rfl rfl (hcp2 _ _ _ (by omega)) ?_)
 go_ret
 exact ⟨rfl, rfl⟩
end Go.Proofs.YthknocapablpaaaGreatDoor

/- slices.Replace of one page by two: a new row. -/
namespace Go.Proofs.YthknocapablpaaaGreatDoor
open Go.RowKit Go.Lib Go.Eng

set_option maxHeartbeats 4000000 in
set_option maxRecDepth 100000 in
theorem replace_walk (b d c k vb vc N G : Nat) (w W0 W1 W2 : World) (hn : k + d ≤ 100000) (hd : 0 < d) (hc : c < k + 2 + d) (hck : k + 1 + d ≤ c) (hG : k + 2 + d ≤ G)
  (hap : ∀ x : Int, x = (d : Int) + 2 → (Builtin.append_ #[206, 3] 206 #[.slice (some ⟨b, 0, none⟩) k c, .int .i64 x]).run Tryz.prog w.drew = .ok (.slice (some ⟨N, 0, none⟩) (k + 2 + d) G) W0)
  (hcp1 : ∀ ty q dc, q = d + 2 → (Builtin.copy_ #[206, 206] ty #[.slice (some ⟨N, k, none⟩) q dc, .slice (some ⟨vb, 0, none⟩) 2 vc]).run Tryz.prog W0 = .ok (goInt (2 : Nat)) W1)
  (hcp2 : ∀ ty dc sc, (Builtin.copy_ #[206, 206] ty #[.slice (some ⟨N, k + 2, none⟩) d dc, .slice (some ⟨b, k + 1, none⟩) d sc]).run Tryz.prog W1.drew = .ok (goInt d) W2) :
  Calls Tryz.prog 207 #[.slice (some ⟨b, 0, none⟩) (k + 1 + d) c, .int .i64 k, .int .i64 ((k + 1 : Nat) : Int), .slice (some ⟨vb, 0, none⟩) 2 vc] w fun e w' => e = .returned (.slice (some ⟨N, 0, none⟩) (k + 2 + d) G) ∧ w' = W2 := by
 have mixed : Tryz.prog.follows .mixedOrders = true := by kernel_rfl
 have h1 : ¬ (((k + 1 : Nat) : Int) = ((k + 1 + d : Nat) : Int)) := by omega
 have h2 : (k : Int) ≤ ((k + 1 : Nat) : Int) := by omega
 have h3 : k ≤ c := by omega
 have h4 : k ≤ k + 1 := by omega
 have h6 : (0 : Int) ≤ ((k + 1 : Nat) : Int) := by omega
 have h7 : (0 : Int) ≤ (k : Int) := by omega
 have h8 : ((k + 1 : Nat) : Int).toNat = k + 1 := by omega
 have h10 : ((k + 1 : Nat) : Int) ≤ (c : Int) := by omega
 have h11 : ((k + 1 : Nat) : Int) ≤ ((k + 1 + d : Nat) : Int) := by omega
 have h12 : ¬ ((k : Int) = ((k + 1 + d : Nat) : Int)) := by omega
 have g1 : ((k : Int) + 2).toNat = k + 2 := by omega
 have g2 : ((k : Int) + 1).toNat = k + 1 := by omega
 have g3 : (0 : Int) ≤ (k : Int) + 2 := by omega
 have g4 : (0 : Int) ≤ (k : Int) + 1 := by omega
 have g5 : (k : Int) + 2 ≤ (k : Int) + 2 + (d : Int) := by omega
 have g6 : (k : Int) + 1 ≤ (k : Int) + 1 + (d : Int) := by omega
 have g7 : ¬ (G = k + 2) := by omega
 have g8 : ¬ (c = k + 1) := by omega
 have g9 : k + 2 + d - (k + 2) = d := by omega
 have g10 : k + 1 + d - (k + 1) = d := by omega
 have g11 : (k : Int) ≤ (k : Int) + 2 + (d : Int) := by omega
 have g12 : ¬ (c = k) := by omega
 have g13 : ¬ (G = k) := by omega
 have g14 : (c : Int) < (k : Int) + 2 + (d : Int) := by omega
 have g15 : k + 2 + d - k = d + 2 := by omega
 have h20 : IntKind.i64.wrap ((k : Int) + 2) = ((k + 2 : Nat) : Int) := by rw [IntKind.wrap_i64]; omega
 have h21 : IntKind.i64.wrap (((k + 2 : Nat) : Int) + (d : Int)) = ((k + 2 + d : Nat) : Int) := by rw [IntKind.wrap_i64]; omega
 have h22 : IntKind.i64.wrap ((k : Int) + 2 + (d : Int) - (k : Int)) = (d : Int) + 2 := by rw [IntKind.wrap_i64]; omega
 go_enter Tryz.func207, Tryz.ntmps207
 go_wp2_with fail
 go_region_o
 go_wp2_with (first
  | (at_builtin; refine Lib.wpList_append_run _ rfl _ _ _ _ rfl _ _ rfl rfl _ _ (hap _ (by omega)) ?_)
  | (at_builtin; refine wpList_copy_runI _ rfl _ _ 206 206 rfl _ _ rfl rfl (hcp1 _ _ _ (by omega)) ?_))
 go_region_law_o (refine step_copy_runI rfl _ _ 206 206 rfl _ _ (by simp [Act.eval, Act.put]) (by simp [Act.eval, Act.put]) (hcp2 _ _ _) ?_)
 go_wp2
 go_ret
 exact ⟨rfl, rfl⟩
end Go.Proofs.YthknocapablpaaaGreatDoor

/- slices.Replace of one page by two, in any room. -/
namespace Go.Proofs.YthknocapablpaaaGreatDoor
open Go.RowKit Go.Lib Go.Eng

set_option maxHeartbeats 4000000 in
set_option maxRecDepth 100000 in
theorem replace_grow (b d c k vb vc : Nat) (C D : Array Value) (cs vs : List Value) (w : World) (hn : k + d ≤ 100000) (hd : 0 < d) (hc : c < k + 2 + d) (hck : k + 1 + d ≤ c)
  (hb : w.heap[b]? = some (.cells C 305 (0, 0))) (hA : w.heap[vb]? = some (.cells D 305 (0, 0)))
  (hcl : cs.length = k + 1 + d) (hcs : ∀ (j : Nat) (v : Value), cs[j]? = some v → C[0 + j]? = some v) (h1c : allOne cs = true)
  (hvl : vs.length = 2) (hvs : ∀ (j : Nat) (v : Value), vs[j]? = some v → D[0 + j]? = some v) (h1v : allOne vs = true) :
  Calls Tryz.prog 207 #[.slice (some ⟨b, 0, none⟩) (k + 1 + d) c, .int .i64 k, .int .i64 ((k + 1 : Nat) : Int), .slice (some ⟨vb, 0, none⟩) 2 vc] w fun e w' => ∃ (G : Nat) (A : Array Value),
   e = .returned (.slice (some ⟨w.heap.size, 0, none⟩) (k + 2 + d) G) ∧ k + 2 + d ≤ G ∧ w'.heap = w.heap.push (.cells A 305 (0, 0)) ∧ w'.os = w.os ∧ w'.tape = w.tape ∧ w'.output = w.output ∧
   G ≤ A.size ∧ A.toList.take (k + 2 + d) = cs.take k ++ vs ++ cs.drop (k + 1) := by
 have q1 : k + (d + 2) = k + 2 + d := by omega
 have q2 : k ≤ appendMax := by unfold appendMax; omega
 have q3 : d + 2 ≤ appendMax := by unfold appendMax; omega
 have q4 : c < k + (d + 2) := by omega
 have hbw : b < w.heap.size := (Array.getElem?_eq_some_iff.1 hb).1
 have hvw : vb < w.heap.size := (Array.getElem?_eq_some_iff.1 hA).1
 have htk : (cs.take k).length = k := by rw [List.length_take, hcl]; omega
 have hdl : (cs.drop (k + 1)).length = d := by rw [List.length_drop, hcl]; omega
 obtain ⟨inf, hinf, hbytes, Z, hZ, hZs, hZv⟩ : ∃ inf, Tryz.prog.info? 305 = some inf ∧ inf.bytes ≤ appendMax ∧ ∃ Z, inf.zero = some Z ∧ Z.cells.size = 1 ∧ ∀ w', (zeroValue 305).run Tryz.prog w' = .ok Z w' :=
  ⟨_, rfl, by decide, _, rfl, rfl, Tryz.zeroValue305⟩
 have zs : ∀ q, (Builtin.zeroCells Z.cells q).size = q * 1 := fun q => by rw [← Array.length_toList, zeroCells_eq, List.length_flatten]; simp [hZs]
 obtain ⟨r, hap⟩ := run_append_grow' (P := Tryz.prog) (st := 206) (e := 305) (size := 1) (n := d + 2) (len := k) (cap := c) («as» := #[206, 3]) (vs := #[.slice (some ⟨b, 0, none⟩) k c, .int .i64 (Int.ofNat (d + 2))]) (ty := 206)
  (base := some ⟨b, 0, none⟩) (zeros := true) (N := Builtin.zeroCells Z.cells (d + 2)) (OLD := (cs.take k).toArray) (i := inf) (Z := Z) (w := w.drew)
  rfl rfl rfl Tryz.underlying206 rfl hinf hbytes (.inr ⟨3, _, rfl, Tryz.underlying3, rfl⟩) q3 q2 hZv (fun _ => ⟨⟨_, rfl⟩, rfl⟩) (fun q => by cases q)
  (zs _) (fun w' hw' => by
   have := loads1 (w := w') (b := b) (o := 0) (n := k) (t := 305) (fr := (0, 0)) (C := C) (by rw [hw']; exact hb) htk (fun j v hj => by
    rw [List.getElem?_take] at hj
    split at hj
    ·exact hcs j v hj
    ·cases hj)
   exact this) q4
 rw [q1] at hap
 obtain ⟨A0, hA0⟩ : ∃ A0 : Array Value, A0 = (cs.take k).toArray ++ Builtin.zeroCells Z.cells (d + 2) ++ Builtin.zeroCells Z.cells r := ⟨_, rfl⟩
 have hA0s : A0.size = k + 2 + d + r := by
  rw [hA0]
  simp only [Array.size_append, List.size_toArray, htk, zs]
  omega
 have hA0t : A0.toList.take k = cs.take k := by
  rw [hA0]
  simp only [Array.toList_append, List.append_assoc]
  exact List.take_left' htk
 rw [← hA0] at hap
 clear hA0 zs hinf hbytes hZ hZs hZv
 obtain ⟨W0, hW0⟩ : ∃ W0 : World, W0 = w.drew.drew.alloc (.cells A0 305) := ⟨_, rfl⟩
 have hap' : ∀ x : Int, x = (d : Int) + 2 → (Builtin.append_ #[206, 3] 206 #[.slice (some ⟨b, 0, none⟩) k c, .int .i64 x]).run Tryz.prog w.drew = .ok (.slice (some ⟨w.heap.size, 0, none⟩) (k + 2 + d) (k + 2 + d + r)) W0 := fun x hx => by
  rw [hx, hW0]
  exact hap
 have g0 : W0.heap[w.heap.size]? = some (.cells A0 305 (0, 0)) := by
  rw [hW0]
  exact Array.getElem?_push_size
 have g1 : ∀ q, q < w.heap.size → W0.heap[q]? = w.heap[q]? := fun q hq => by rw [hW0]; exact Below.heap_alloc w.drew.drew _ q hq
 have gs : w.heap.size < W0.heap.size := by rw [hW0]; simp [World.alloc]
 obtain ⟨L1, hL1⟩ : ∃ L1, L1 = layL A0.toList k vs := ⟨_, rfl⟩
 have hL1s : L1.length = A0.size := by
  rw [hL1, layL_length (by rw [hvl]; simp only [Array.length_toList]; omega)]
  simp
 obtain ⟨W1, hW1⟩ : ∃ W1 : World, W1 = { W0 with heap := W0.heap.setIfInBounds w.heap.size (.cells ⟨L1⟩ 305 (0, 0)) } := ⟨_, rfl⟩
 have h1 : W1.heap[w.heap.size]? = some (.cells ⟨L1⟩ 305 (0, 0)) := by
  rw [hW1]; simp only [Array.getElem?_setIfInBounds_self, if_pos gs]
 have h1o : ∀ q, q < w.heap.size → W1.heap[q]? = w.heap[q]? := fun q hq => by
  rw [hW1]
  have : w.heap.size ≠ q := by omega
  simp only [Array.getElem?_setIfInBounds_ne this]
  exact g1 q hq
 have hcp1 : ∀ ty q dc, q = d + 2 → (Builtin.copy_ #[206, 206] ty #[.slice (some ⟨w.heap.size, k, none⟩) q dc, .slice (some ⟨vb, 0, none⟩) 2 vc]).run Tryz.prog W0 = .ok (goInt (2 : Nat)) W1 := fun ty q dc hq => by
  refine run_copy3 (e := 305) (size := 1) (V := vs) rfl Tryz.underlying206 Tryz.sizeOf305 (by simp only [Nat.min_def]; split <;> omega) ?_ ?_
  ·exact loads1 (w := W0) (t := 305) (fr := (0, 0)) (C := D) (by rw [g1 vb hvw]; exact hA) hvl hvs
  ·have := run_storeCells (P := Tryz.prog) (w := W0) g0 (fun j _ q => absurd q.2 (Nat.not_lt_zero _)) vs k 0 h1v (by omega)
   refine this.trans ?_
   rw [hW1, hL1]
   simp only [Nat.add_zero]
 obtain ⟨L2, hL2⟩ : ∃ L2, L2 = layL L1 (k + 2) (cs.drop (k + 1)) := ⟨_, rfl⟩
 have hL2s : L2.length = A0.size := by
  rw [hL2, layL_length (by rw [hdl]; omega), hL1s]
 obtain ⟨W2, hW2⟩ : ∃ W2 : World, W2 = { W1.drew with heap := W1.heap.setIfInBounds w.heap.size (.cells ⟨L2⟩ 305 (0, 0)) } := ⟨_, rfl⟩
 have hcp2 : ∀ ty dc sc, (Builtin.copy_ #[206, 206] ty #[.slice (some ⟨w.heap.size, k + 2, none⟩) d dc, .slice (some ⟨b, k + 1, none⟩) d sc]).run Tryz.prog W1.drew = .ok (goInt d) W2 := fun ty dc sc => by
  refine run_copy3 (e := 305) (size := 1) (V := cs.drop (k + 1)) rfl Tryz.underlying206 Tryz.sizeOf305 (Nat.min_self _) ?_ ?_
  ·refine loads1 (w := W1.drew) (t := 305) (fr := (0, 0)) (C := C) ((h1o b hbw).trans hb) hdl (fun j v hj => by
    rw [List.getElem?_drop] at hj
    have := hcs _ v hj
    rwa [Nat.zero_add] at this)
  ·have := run_storeCells (P := Tryz.prog) (w := W1.drew) h1 (fun j _ q => absurd q.2 (Nat.not_lt_zero _)) (cs.drop (k + 1)) (k + 2) 0 (allOne_iff.2 fun v hv => allOne_iff.1 h1c v (List.mem_of_mem_drop hv)) (by simp only [List.size_toArray]; omega)
   refine this.trans ?_
   rw [hW2, hL2]
   rfl
 have hfin : W2.heap = w.heap.push (.cells ⟨L2⟩ 305 (0, 0)) ∧ W2.os = w.os ∧ W2.tape = w.tape ∧ W2.output = w.output := by
  rw [hW2, hW1, hW0]
  refine ⟨?_, rfl, rfl, rfl⟩
  simp only [Array.setIfInBounds_setIfInBounds]
  apply Array.ext_getElem?
  intro q
  rw [Array.getElem?_setIfInBounds]
  show _ = (w.heap.push _)[q]?
  show (if w.heap.size = q then _ else (w.heap.push (.cells A0 305 (0, 0)))[q]?) = _
  by_cases e : w.heap.size = q
  ·subst e
   simp
  ·rw [if_neg e, Array.getElem?_push, Array.getElem?_push, if_neg (by omega), if_neg (by omega)]
 have hget : L2.take (k + 2 + d) = cs.take k ++ vs ++ cs.drop (k + 1) := by
  have e1 : (cs.take k ++ vs).length = k + 2 := by rw [List.length_append, htk, hvl]
  have e2 : L1.take (k + 2) = cs.take k ++ vs := by
   rw [hL1]
   unfold layL
   rw [hA0t]
   exact List.take_left' e1
  rw [hL2]
  unfold layL
  rw [e2]
  exact List.take_left' (by rw [List.length_append, e1, hdl])
 refine (replace_walk b d c k vb vc w.heap.size (k + 2 + d + r) w W0 W1 W2 hn hd hc hck (by omega) hap' hcp1 hcp2).mono ?_
 rintro e w' ⟨rfl, rfl⟩
 exact ⟨_, ⟨L2⟩, rfl, by omega, hfin.1, hfin.2.1, hfin.2.2.1, hfin.2.2.2, by simp only [List.size_toArray]; omega, hget⟩

set_option maxRecDepth 100000 in
theorem info_305 : ∃ i, Tryz.prog.info? 305 = some i ∧ i.zero = some (.slice none 0 0) ∧ i.size = 1 ∧ i.bytes = 24 := by
 exact ⟨_, rfl, rfl, rfl, rfl⟩
set_option maxRecDepth 100000 in
theorem replace_any {w : World} {g n cap k vb vc : Nat} {xs : List Value} {v1 v2 : Value} (R : RowB w 305 1 g n cap xs) (hk : k < n) (hn : n ≤ 100000) (hA : w.heap[vb]? = some (.cells #[v1, v2] 305 (0, 0))) (hne : vb ≠ g) (h1 : ∀ u ∈ xs, u.oneCell' = true) (h2 : ∀ u ∈ [v1, v2], u.oneCell' = true) :
  Calls Tryz.prog 207 #[.slice (some ⟨g, 0, none⟩) n cap, .int .i64 k, .int .i64 ((k + 1 : Nat) : Int), .slice (some ⟨vb, 0, none⟩) 2 vc] w fun e w' => ∃ g' cap', e = .returned (.slice (some ⟨g', 0, none⟩) (n + 1) cap') ∧ RowB w' 305 1 g' (n + 1) cap' (xs.take k ++ [v1, v2] ++ xs.drop (k + 1)) ∧ (g' = g ∨ g' = w.heap.size) ∧ Kept (fun b => b = g) w w' := by
 obtain ⟨d, rfl⟩ : ∃ d, n = k + 1 + d := ⟨n - (k + 1), by omega⟩
 obtain ⟨i0, hi0, z0, s0, b0⟩ := info_305
 have hRR := R
 obtain ⟨hl, hnc, C, hg, hC, ht⟩ := R
 rw [Nat.mul_one] at hl hC ht
 have hgl : g < w.heap.size := (Array.getElem?_eq_some_iff.1 hg).1
 have hcs : ∀ (j : Nat) (v : Value), xs[j]? = some v → C[0 + j]? = some v := fun j v hj => by
  rw [← ht, List.getElem?_take] at hj
  split at hj
  ·rw [Nat.zero_add]; simpa using hj
  ·cases hj
 have hvs : ∀ (j : Nat) (v : Value), [v1, v2][j]? = some v → (#[v1, v2])[0 + j]? = some v := fun j v hj => by
  rw [Nat.zero_add]; simpa using hj
 have hlen : (xs.take k ++ [v1, v2] ++ xs.drop (k + 1)).length = (k + 1 + d + 1) * 1 := by
  simp only [List.length_append, List.length_take, List.length_drop, hl, List.length_cons, List.length_nil]; omega
 have ho1 : allOne xs = true := allOne_iff.2 h1
 have ho2 : allOne [v1, v2] = true := allOne_iff.2 h2
 rcases Nat.eq_zero_or_pos d with hd | hd
 ·subst hd
  have hP := hRR.part (k := k) (c := cap) (by omega) (by omega) (Nat.le_refl _)
  obtain ⟨g', cap', w1, hrun, hrow, hgg, K⟩ := rowb_append (ty := 206) Tryz.underlying206 hi0 z0 s0 b0 rfl hP ⟨vb, 0, none⟩ 2 vc [v1, v2] rfl (fun j u hj => by
   rw [add_mid]
   simp only [World.cell?, hA]
   exact hvs j u hj) h2 (by omega) (by omega)
  refine (replace_end g cap k vb vc _ cap' w w1 (by omega) (by omega) hrun).mono ?_
  rintro e w' ⟨rfl, rfl⟩
  refine ⟨g', cap', rfl, ?_, hgg, K.mono (fun q _ h => h.1)⟩
  have hnil : xs.drop (k + 1) = [] := List.drop_of_length_le (by omega)
  rw [hnil, List.append_nil]
  rw [Nat.mul_one] at hrow
  exact hrow
 ·have hdl : (xs.drop (k + 1)).length = d := by rw [List.length_drop, hl]; omega
  have hod : allOne (xs.drop (k + 1)) = true := allOne_iff.2 fun v hv => h1 v (List.mem_of_mem_drop hv)
  rcases Nat.lt_or_ge cap (k + 2 + d) with hc | hc
  ·refine (replace_grow g d cap k vb vc C _ xs [v1, v2] w (by omega) hd hc (by omega) hg hA hl hcs ho1 rfl hvs ho2).mono ?_
   rintro e w' ⟨G, A, rfl, hG, hh, e1, e2, e3, hs, htk⟩
   refine ⟨w.heap.size, G, by rw [show k + 1 + d + 1 = k + 2 + d by omega], ⟨hlen, by omega, A, by rw [hh]; exact Array.getElem?_push_size, by omega, ?_⟩, .inr rfl, ⟨e1, e2, e3, by rw [hh]; simp, fun q hq _ => by rw [hh, Array.getElem?_push]; rw [if_neg (by omega)]⟩⟩
   rw [← htk]
   congr 1
   omega
  ·refine (replace_shift g d cap k vb vc C _ (xs.drop (k + 1)) [v1, v2] w (by omega) hd (by omega) hC hg hA hne hdl (fun j v hj => by
    rw [List.getElem?_drop] at hj
    have := hcs _ v hj
    rwa [Nat.zero_add] at this) hod rfl hvs ho2).mono ?_
   rintro e w' ⟨rfl, rfl⟩
   refine ⟨g, cap, by rw [show k + 1 + d + 1 = k + 2 + d by omega], ⟨hlen, by omega, ⟨layL (layL C.toList (k + 2) (xs.drop (k + 1))) k [v1, v2]⟩, ?_, ?_, ?_⟩, .inl rfl, ⟨rfl, rfl, rfl, by simp, fun q hq hn => Array.getElem?_setIfInBounds_ne (fun e => hn e.symm)⟩⟩
   ·simp only [Array.getElem?_setIfInBounds_self, if_pos hgl]
   ·simp only [List.size_toArray]
    rw [layL_length, layL_length]
    ·simpa using hC
    ·rw [hdl]; simp only [Array.length_toList]; omega
    ·rw [layL_length (by rw [hdl]; simp only [Array.length_toList]; omega)]; simp only [Array.length_toList, List.length_cons, List.length_nil]; omega
   ·have := lay_shift (A := C.toList) (vs := [v1, v2]) (r := xs.drop (k + 1)) (a := k) (by rw [hdl]; simp only [Array.length_toList, List.length_cons, List.length_nil]; omega)
    simp only [List.length_cons, List.length_nil, Nat.zero_add, Nat.reduceAdd, hdl] at this
    rw [show (k + 1 + d + 1) * 1 = k + 2 + d by omega, this, ← ht, List.take_take, Nat.min_eq_left (by omega)]
end Go.Proofs.YthknocapablpaaaGreatDoor

/- slices.Clone of a page's cells, and a page that is parted. -/
namespace Go.Proofs.YthknocapablpaaaGreatDoor
open Go.RowKit Go.Lib Go.Eng

set_option maxHeartbeats 4000000 in
set_option maxRecDepth 100000 in
theorem clone_any {w : World} {g o c : Nat} {l : List Cel} (hl : l.length ≤ 1000) (hs : ∀ (j : Nat) (u : Value), (cellsC l)[j]? = some u → w.cell? ⟨g, o + j, none⟩ = some u) :
  Calls Tryz.prog 292 #[.slice (some ⟨g, o, none⟩) l.length c] w fun e w' => ∃ q cap, e = .returned (.slice (some ⟨q, 0, none⟩) l.length cap) ∧ RowB w' 132 3 q l.length cap (cellsC l) ∧ w.heap.size ≤ q ∧ Kept (fun _ => False) w w' := by
 obtain ⟨i0, hi0, z0, s0, b0⟩ := info_132
 obtain ⟨W0, hW0⟩ : ∃ W0 : World, w.alloc (Obj.cells #[] 132) = W0 := ⟨_, rfl⟩
 have k0 : Kept (fun _ => False) w W0 := by rw [← hW0]; exact (Kept.refl _ _).alloc _
 have R0 : RowB W0 132 3 w.heap.size 0 0 [] := ⟨rfl, Nat.le_refl _, #[], by rw [← hW0]; exact heap_alloc_new w _, by simp, rfl⟩
 obtain ⟨g', cap', w1, hrun, hrow, hgg, K⟩ := rowb_append (ty := 305) Tryz.underlying305 hi0 z0 s0 b0 rfl R0 ⟨g, o, none⟩ l.length c (cellsC l) (cellsC_length l) (fun j u hj => by
  rw [add_mid]
  exact k0.cell (hs j u hj) (fun f => f)) (cellsC_one _) (by omega) (by omega)
 have hk : Kept (fun _ => False) w w1 := k0.trans K (fun _ _ f => f) (fun i hi h => by have := h.1; omega)
 have hg : w.heap.size ≤ g' := by
  rcases hgg with h | h
  ·omega
  ·have := k0.size; omega
 rw [Nat.zero_add] at hrow hrun
 rw [List.nil_append] at hrow
 have q305 : ∀ (w : World) (a : Option Addr) (n c n' c' : Nat), (binOp .eql 305 (.slice a n c) (.slice none n' c')).run Tryz.prog w = .ok (.bool a.isNone) w := fun w a n c n' c' => Lib.run_eql_slice_nil w _ _ a n c n' c' Tryz.underlying305
 clear R0 k0 K hgg hs
 go_enter Tryz.func292, Tryz.ntmps292
 go_wp2_with (at_builtin; refine Lib.wpList_append_run _ rfl _ _ _ _ rfl _ _ rfl rfl _ _ hrun ?_)
 go_ret
 exact ⟨g', cap', rfl, hrow, hg, hk⟩

set_option maxHeartbeats 4000000 in
set_option maxRecDepth 100000 in
theorem parted_any {w : World} {p : Pg} (H : PgB w p) (h2 : 2 ≤ p.l.length) (hl : p.l.length ≤ 1000) :
  Calls Tryz.prog 208 #[p.val] w fun e w' => ∃ (p2 : Pg) (vb : Nat), e = .returned (.slice (some ⟨vb, 0, none⟩) 2 2) ∧ w'.heap[vb]? = some (.cells #[Pg.val ⟨p.g, 0, p.l.take (p.l.length / 2), p.l.length / 2⟩, p2.val] 305 (0, 0)) ∧ p2.l = p.l.drop (p.l.length / 2) ∧
   PgB w' ⟨p.g, 0, p.l.take (p.l.length / 2), p.l.length / 2⟩ ∧ PgB w' p2 ∧ w.heap.size ≤ p2.g ∧ w.heap.size ≤ vb ∧ Kept (fun _ => False) w w' := by
 have hH := H
 obtain ⟨g, o, l, cap⟩ := p
 obtain ⟨h0, h1, hR⟩ := H
 simp only at h0 h1 hR h2 hl ⊢
 subst h0
 obtain ⟨h, hh⟩ : ∃ h, l.length / 2 = h := ⟨_, rfl⟩
 have c1 : 1 ≤ h := by omega
 have c2 : h < l.length := by omega
 have c3 : l.length ≤ cap := hR.2.1
 rw [hh]
 have ht : (l.take h).length = h := by rw [List.length_take]; omega
 have hd : (l.drop h).length = l.length - h := List.length_drop
 have P1 : PgB w ⟨g, 0, l.take h, h⟩ := by
  refine ⟨rfl, fun e => by have := congrArg List.length e; simp only [List.length_nil] at this; omega, ?_⟩
  have := hR.part (k := h) (c := h) (by omega) (Nat.le_refl _) (by omega)
  rw [cellsC_take] at this
  simp only [ht]
  exact this
 have CL := Lib.hid (fun (W : World) (K : Kept (fun _ => False) w W) (c : Nat) => clone_any (w := W) (g := g) (o := h * 3) (c := c) (l := l.drop h) (by omega) (fun j u hj => by
  rw [← cellsC_drop, List.getElem?_drop] at hj
  exact K.cell (hR.cell hj) (fun f => f)))
 rw [hd] at CL
 unfold Pg.val
 simp only [ht]
 have e1 : ((l.length : Int) / 2) = (h : Int) := by omega
 have e2 : (h : Int) ≤ (l.length : Int) := by omega
 have e3 : (0 : Int) ≤ (h : Int) := by omega
 have e4 : h ≤ l.length := by omega
 have e5 : h ≤ cap := by omega
 have e6 : (h : Int) ≤ (cap : Int) := by omega
 have e7 : ¬ (cap = h) := by omega
 have e8 : IntKind.i64.wrap (h : Int) = (h : Int) := by rw [IntKind.wrap_i64]; omega
 obtain ⟨n, hn⟩ : ∃ n, l.length = n := ⟨_, rfl⟩
 have HDN := Lib.hid (show l.drop h ≠ [] from fun e => by have := congrArg List.length e; simp only [List.length_nil] at this; omega)
 rw [hn] at e1 e2 e4 CL hd ⊢
 have HD := Lib.hid hd
 have PP := Lib.hid P1
 clear P1 hR h1 hH hh c1 c2 c3 ht hd h2 hl hn
 go_enter Tryz.func208, Tryz.ntmps208
 go_wp2_with fail
 go_region_held3 (fun _ => True) (trivial)
  (first
   | (go_at_call 292; refine (CL.out _ (Kept.refl _ _).drew _).mono ?_; rintro e w4 ⟨q, qc, rfl, qr, ql, qk⟩; (have QK := Lib.hid ((Kept.refl (fun _ => False) w).drew.trans qk (fun _ _ f => f) (fun _ _ f => f))); (have QR := Lib.hid qr); (have QL := Lib.hid ql); clear qr ql qk))
 go_wp2_with fail
 go_ret
 have hk4 := QK.out.alloc (.cells #[.slice (some ⟨g, 0, none⟩) h h, .slice (some ⟨q, 0, none⟩) (n - h) qc] 305)
 have hw4 : Kept (fun _ => False) w4 (w4.alloc (.cells #[.slice (some ⟨g, 0, none⟩) h h, .slice (some ⟨q, 0, none⟩) (n - h) qc] 305)) := (Kept.refl _ _).alloc _
 refine ⟨⟨q, 0, l.drop h, qc⟩, w4.heap.size, rfl, ?_, rfl, PP.out.kept hk4 (fun f => f), ⟨rfl, HDN.out, ?_⟩, QL.out, QK.out.size, hk4⟩
 ·simp only [HD.out]
  exact heap_alloc_new w4 _
 ·simp only [HD.out]
  exact QR.out.kept hw4 (fun f => f)
end Go.Proofs.YthknocapablpaaaGreatDoor

/- Sorted pages, plainly: where a cell more goes. -/
namespace Go.Proofs.YthknocapablpaaaGreatDoor
open Go.RowKit

def SortedC (l : List Cel) : Prop := l.Pairwise fun a b => cmpC a b < 0
theorem sorted_mono {l : List Cel} {t : Cel} (h : SortedC l) (x y : Nat) (c d : Cel) (hxy : x ≤ y) (hx : l[x]? = some c) (hy : l[y]? = some d) (hd : cmpC d t < 0) : cmpC c t < 0 := by
 rcases Nat.lt_or_ge x y with hl | hl
 ·obtain ⟨qx, ex⟩ := List.getElem?_eq_some_iff.1 hx
  obtain ⟨qy, ey⟩ := List.getElem?_eq_some_iff.1 hy
  have := List.pairwise_iff_getElem.1 h x y qx qy hl
  rw [ex, ey] at this
  exact cmpC_is.lt_le this (by omega)
 ·have : x = y := by omega
  subst this
  rw [hx] at hy
  cases hy
  exact hd
/-- A list with a cell more, where it belongs. -/
def Ins (l : List Cel) (c : Cel) (l' : List Cel) : Prop := ∃ A B, l = A ++ B ∧ l' = A ++ c :: B ∧ (∀ a ∈ A, cmpC a c < 0) ∧ ∀ b ∈ B, 0 < cmpC b c
theorem Ins.sorted {l l' : List Cel} {c : Cel} (h : Ins l c l') (hs : SortedC l) : SortedC l' := by
 obtain ⟨A, B, rfl, rfl, hA, hB⟩ := h
 unfold SortedC at *
 rw [List.pairwise_append] at hs ⊢
 rw [List.pairwise_cons]
 refine ⟨hs.1, ⟨fun b hb => (cmpC_is.anti c b).2 (hB b hb), hs.2.1⟩, fun a ha b hb => ?_⟩
 rcases List.mem_cons.1 hb with rfl | hb
 ·exact hA a ha
 ·exact hs.2.2 a ha b hb
theorem Ins.perm {l l' : List Cel} {c : Cel} (h : Ins l c l') : l'.Perm (c :: l) := by
 obtain ⟨A, B, rfl, rfl, _, _⟩ := h
 exact List.perm_middle
theorem sorted_pages {ps : List Pg} (h : SortedC (allP ps)) : (∀ p ∈ ps, SortedC p.l) ∧ ∀ (x y : Nat) (p q : Pg), x < y → ps[x]? = some p → ps[y]? = some q → ∀ a ∈ p.l, ∀ b ∈ q.l, cmpC a b < 0 := by
 unfold SortedC allP at h
 rw [List.pairwise_flatMap] at h
 refine ⟨h.1, fun x y p q hxy hx hy a ha b hb => ?_⟩
 obtain ⟨qx, ex⟩ := List.getElem?_eq_some_iff.1 hx
 obtain ⟨qy, ey⟩ := List.getElem?_eq_some_iff.1 hy
 have := List.pairwise_iff_getElem.1 h.2 x y qx qy hxy
 rw [ex, ey] at this
 exact this a ha b hb
theorem way_lt {p : Pg} {t : Cel} (hne : p.l ≠ []) : (p.way t < 0 → ∃ a ∈ p.l, cmpC a t ≤ 0) ∧ (0 ≤ p.way t → ∀ q : Cel, p.l[0]? = some q → 0 < cmpC q t) := by
 obtain ⟨g, o, l, cap⟩ := p
 cases l with
 | nil => exact absurd rfl hne
 | cons a l =>
  unfold Pg.way behindI
  simp only
  split
  ·rename_i h
   refine ⟨fun e => by omega, fun _ q hq => ?_⟩
   simp at hq
   subst hq
   omega
  ·rename_i h
   exact ⟨fun _ => ⟨a, by simp, by omega⟩, fun e => by omega⟩
theorem way_mono {ps : List Pg} {t : Cel} (h : SortedC (allP ps)) (hne : ∀ p ∈ ps, p.l ≠ []) (x y : Nat) (c d : Pg) (hxy : x ≤ y) (hx : ps[x]? = some c) (hy : ps[y]? = some d) (hd : d.way t < 0) : c.way t < 0 := by
 rcases Nat.lt_or_ge x y with hl | hl
 ·obtain ⟨b, hb, hbt⟩ := (way_lt (hne d (List.mem_of_getElem? hy))).1 hd
  rcases way_ne c t with e | e
  ·have hc := hne c (List.mem_of_getElem? hx)
   obtain ⟨a, ha⟩ : ∃ a, c.l[0]? = some a := ⟨_, List.getElem?_eq_getElem (List.length_pos_iff.2 hc)⟩
   have h1 := (way_lt (t := t) hc).2 (by omega) a ha
   have h2 := (sorted_pages h).2 x y c d hl hx hy a (List.mem_of_getElem? ha) b hb
   have := cmpC_is.lt_le h2 hbt
   omega
  ·omega
 ·have : x = y := by omega
  subst this
  rw [hx] at hy
  cases hy
  exact hd
theorem allP_append (a b : List Pg) : allP (a ++ b) = allP a ++ allP b := by simp [allP]
theorem split_list {ps : List Pg} {k : Nat} {p : Pg} (h : ps[k]? = some p) : ps = ps.take k ++ p :: ps.drop (k + 1) := by
 obtain ⟨hk, e⟩ := List.getElem?_eq_some_iff.1 h
 rw [← e]
 simp
theorem mem_allP {ps : List Pg} {a : Cel} : a ∈ allP ps ↔ ∃ p ∈ ps, a ∈ p.l := by simp [allP]
theorem ins_plain {ps : List Pg} {k i n : Nat} {p : Pg} {t : Cel} (hs : SortedC (allP ps)) (hne : ∀ p ∈ ps, p.l ≠ []) (hi : SplitPg ps t i) (hk : k = i - 1) (hp : ps[k]? = some p) (ha : SplitAt p.l t n) (hno : ∀ d ∈ allP ps, cmpC d t ≠ 0) :
  Ins (allP ps) t (allP (ps.take k) ++ insAt p.l n t ++ allP (ps.drop (k + 1))) := by
 obtain ⟨s1, s2⟩ := sorted_pages hs
 have hpm : p ∈ ps := List.mem_of_getElem? hp
 have hpl : ∀ a ∈ p.l, a ∈ allP ps := fun a h => mem_allP.2 ⟨p, hpm, h⟩
 refine ⟨allP (ps.take k) ++ p.l.take n, p.l.drop n ++ allP (ps.drop (k + 1)), ?_, ?_, ?_, ?_⟩
 ·conv => lhs; rw [split_list hp, allP_append]
  rw [show allP (p :: ps.drop (k + 1)) = p.l ++ allP (ps.drop (k + 1)) by simp [allP]]
  conv => lhs; rw [← List.take_append_drop n p.l]
  simp only [List.append_assoc]
 ·unfold insAt
  simp only [List.append_assoc, List.cons_append]
 ·intro a h
  rcases List.mem_append.1 h with h | h
  ·obtain ⟨q, hq, haq⟩ := mem_allP.1 h
   obtain ⟨x, hx, e⟩ := List.getElem_of_mem hq
   rw [List.length_take] at hx
   have hqx : ps[x]? = some q := by
    rw [← e, List.getElem_take]
    exact List.getElem?_eq_getElem (by omega)
   have hw := hi.2.1 k p (by omega) hp
   obtain ⟨b, hb, hbt⟩ := (way_lt (hne p hpm)).1 hw
   exact cmpC_is.lt_le (s2 x k q p (by omega) hqx hp a haq b hb) hbt
  ·obtain ⟨x, hx, e⟩ := List.getElem_of_mem h
   rw [List.length_take] at hx
   refine ha.2.1 x a (by omega) ?_
   rw [← e, List.getElem_take]
   exact List.getElem?_eq_getElem (by omega)
 ·intro b h
  rcases List.mem_append.1 h with h | h
  ·obtain ⟨x, hx, e⟩ := List.getElem_of_mem h
   rw [List.length_drop] at hx
   have h1 := ha.2.2 (n + x) b (by omega) (by rw [← e, List.getElem_drop]; exact List.getElem?_eq_getElem (by omega))
   have h2 := hno b (hpl b (List.mem_of_mem_drop h))
   omega
  ·obtain ⟨q, hq, hbq⟩ := mem_allP.1 h
   obtain ⟨y, hy, e⟩ := List.getElem_of_mem hq
   rw [List.length_drop] at hy
   have hqy : ps[k + 1 + y]? = some q := by
    rw [← e, List.getElem_drop]
    exact List.getElem?_eq_getElem (by omega)
   have hqm : q ∈ ps := List.mem_of_getElem? hqy
   have hw := hi.2.2 (k + 1 + y) q (by omega) hqy
   have hne' := hne q hqm
   obtain ⟨f, hf⟩ : ∃ f, q.l[0]? = some f := ⟨_, List.getElem?_eq_getElem (List.length_pos_iff.2 hne')⟩
   have hft := (way_lt hne').2 hw f hf
   obtain ⟨z, hz, ez⟩ := List.getElem_of_mem hbq
   rcases Nat.eq_zero_or_pos z with h0 | h0
   ·subst h0
    rw [List.getElem?_eq_getElem hz, ez] at hf
    cases hf
    exact hft
   ·obtain ⟨q0, e0⟩ := List.getElem?_eq_some_iff.1 hf
    have h3 := List.pairwise_iff_getElem.1 (s1 q hqm) 0 z q0 hz h0
    rw [e0, ez] at h3
    have h4 := (cmpC_is.anti t f).2 hft
    have h5 := cmpC_is.lt_le h4 (Int.le_of_lt h3)
    exact (cmpC_is.anti t b).1 h5
end Go.Proofs.YthknocapablpaaaGreatDoor

/- A memory of pages, where it lies. -/
namespace Go.Proofs.YthknocapablpaaaGreatDoor
open Go.RowKit Go.Lib Go.Eng

theorem RowB.set {w : World} {e g n cap k : Nat} {xs : List Value} {u : Value} (h : RowB w e 1 g n cap xs) : RowB (w.setCell ⟨g, k, none⟩ u) e 1 g n cap (xs.set k u) := by
 obtain ⟨h1, h2, C, hg, h3, h4⟩ := h
 have hgl : g < w.heap.size := (Array.getElem?_eq_some_iff.1 hg).1
 have hv : w.heap[g] = .cells C e (0, 0) := (Array.getElem?_eq_some_iff.1 hg).2
 refine ⟨by rw [List.length_set]; exact h1, h2, C.setIfInBounds k u, ?_, by simpa using h3, ?_⟩
 ·unfold World.setCell
  rw [Array.getElem?_eq_getElem (by simpa using hgl), Array.getElem_modify]
  simp [hv]
 ·rw [← h4]
  rw [Nat.mul_one]
  simp [List.take_set]
/-- A memory that has cells: its struct, its row of pages, its pages; 'own' are the blocks that may turn. -/
structure MemN (mx : Nat) (own : Nat → Prop) (w : World) (m G cap : Nat) (ps : List Pg) : Prop where
 c0 : w.cell? ⟨m, 0, none⟩ = some (.bool true)
 c1 : w.cell? ⟨m, 1, none⟩ = some (.slice (some ⟨G, 0, none⟩) ps.length cap)
 fz : w.frozen? ⟨m, 1, none⟩ = false
 row : RowB w 305 1 G ps.length cap (ps.map Pg.val)
 om : own m
 oG : own G
 hG : G ≠ m
 pg : ∀ p ∈ ps, PgB w p ∧ p.l.length ≤ mx ∧ own p.g ∧ p.g ≠ m ∧ p.g ≠ G
 ap : ps.Pairwise fun p q => p.g ≠ q.g
 ob : ∀ b, own b → b < w.heap.size
structure MemE (own : Nat → Prop) (w : World) (m : Nat) : Prop where
 c0 : w.cell? ⟨m, 0, none⟩ = some (.bool true)
 c1 : w.cell? ⟨m, 1, none⟩ = some (.slice none 0 0)
 fz : w.frozen? ⟨m, 1, none⟩ = false
 om : own m
 ob : ∀ b, own b → b < w.heap.size
def MemB (own : Nat → Prop) (w : World) (m : Nat) (ps : List Pg) : Prop := (ps = [] ∧ MemE own w m) ∨ (ps ≠ [] ∧ ∃ G cap, MemN 16 own w m G cap ps)
theorem MemE.kept {own S : Nat → Prop} {w w' : World} {m : Nat} (M : MemE own w m) (K : Kept S w w') (hS : ∀ b, own b → ¬ S b) : MemE own w' m :=
 ⟨K.cell M.c0 (hS _ M.om), K.cell M.c1 (hS _ M.om), K.frozen M.fz (M.ob _ M.om) (hS _ M.om), M.om, fun b h => Nat.lt_of_lt_of_le (M.ob b h) K.size⟩
theorem MemN.kept {mx : Nat} {own S : Nat → Prop} {w w' : World} {m G cap : Nat} {ps : List Pg} (M : MemN mx own w m G cap ps) (K : Kept S w w') (hS : ∀ b, own b → ¬ S b) : MemN mx own w' m G cap ps :=
 ⟨K.cell M.c0 (hS _ M.om), K.cell M.c1 (hS _ M.om), K.frozen M.fz (M.ob _ M.om) (hS _ M.om), M.row.kept K (hS _ M.oG), M.om, M.oG, M.hG, fun p hp => ⟨(M.pg p hp).1.kept K (hS _ (M.pg p hp).2.2.1), (M.pg p hp).2⟩, M.ap, fun b h => Nat.lt_of_lt_of_le (M.ob b h) K.size⟩
theorem MemB.kept {own S : Nat → Prop} {w w' : World} {m : Nat} {ps : List Pg} (M : MemB own w m ps) (K : Kept S w w') (hS : ∀ b, own b → ¬ S b) : MemB own w' m ps := by
 rcases M with ⟨e, M⟩ | ⟨e, G, cap, M⟩
 ·exact .inl ⟨e, M.kept K hS⟩
 ·exact .inr ⟨e, G, cap, M.kept K hS⟩
theorem MemN.pages {mx : Nat} {own : Nat → Prop} {w : World} {m G cap : Nat} {ps : List Pg} (M : MemN mx own w m G cap ps) : PagesR w (some ⟨G, 0, none⟩) ps := by
 refine .inr ⟨G, 0, rfl, fun j p hj => ⟨?_, (M.pg p (List.mem_of_getElem? hj)).1.ok⟩⟩
 rw [Nat.zero_add]
 exact M.row.cell (by rw [List.getElem?_map, hj]; rfl)
end Go.Proofs.YthknocapablpaaaGreatDoor

/- memory's Put, into a memory without cells. -/
namespace Go.Proofs.YthknocapablpaaaGreatDoor
open Go.RowKit Go.Lib Go.Eng

/-- What Put leaves. -/
def PutM (own : Nat → Prop) (w w' : World) (m : Nat) (c : Cel) (ps : List Pg) : Prop := ∃ (own' : Nat → Prop) (ps' : List Pg), MemB own' w' m ps' ∧ Ins (allP ps) c (allP ps') ∧ (∀ b, own b → own' b) ∧ (∀ b, own' b → own b ∨ w.heap.size ≤ b) ∧ Kept own w w'
theorem frozen_setCell {w : World} {a : Addr} {v : Value} {p : Addr} : (w.setCell a v).frozen? p = w.frozen? p := by
 simp [go_sem]
set_option maxHeartbeats 4000000 in
set_option maxRecDepth 100000 in
theorem mput_nil {own : Nat → Prop} {w : World} {m : Nat} {c : Cel} (M : MemE own w m) (hc : mayC c = true) :
  Calls Tryz.prog 124 #[.pointer (some ⟨m, 0, none⟩), c.val] w fun e w' => e = .returned (.int .i64 0) ∧ PutM own w w' m c [] := by
 obtain ⟨g, hg⟩ : ∃ g, w.heap.size = g := ⟨_, rfl⟩
 obtain ⟨W0, hW0⟩ : ∃ W, w.alloc (Obj.cells #[.string c.k, .int .i64 c.s, .string c.v] 132) = W := ⟨_, rfl⟩
 have k0 : Kept (fun _ => False) w W0 := by rw [← hW0]; exact (Kept.refl _ _).alloc _
 have T0 : CelAt W0 g 0 c := by rw [← hW0, ← hg]; exact ⟨by simp [go_sem], by simp [go_sem], by simp [go_sem]⟩
 have MM := Lib.hid (M.kept k0 (fun _ _ f => f))
 have x0 := MM.out.c0
 have x1 := MM.out.c1
 have xf := MM.out.fz
 obtain ⟨y0, y1, y2⟩ := T0
 have K0 := Lib.hid k0
 have GL := Lib.hid (show g < W0.heap.size by rw [← hW0, ← hg]; simp)
 have MY := Lib.hid (fun (W : World) => may_any c W)
 rw [hc] at MY
 obtain ⟨ck, cs, cv⟩ := c
 unfold Cel.val at MY ⊢
 simp only [Nat.zero_add] at y0 y1 y2
 clear k0 M hc
 go_enter Tryz.func124, Tryz.ntmps124
 go_wp2_with (go_at_call 203; refine (MY.out _).mono ?_; rintro e w4 ⟨rfl, kk⟩; (have z1 := kk.cell x1 (fun f => f)); (have zf := kk.frozen xf (MM.out.ob _ MM.out.om) (fun f => f)); (have z2 := kk.cell y0 (fun f => f)); (have z3 := kk.cell y1 (fun f => f)); (have z4 := kk.cell y2 (fun f => f)); (have zl := World.block_lt_of_cell? _ _ z1); (have KK := Lib.hid kk); clear kk)
 go_ret
 refine ⟨rfl, ?_⟩
 have z0 := KK.out.cell x0 (fun f => f)
 have K4 : Kept (fun _ => False) w w4 := K0.out.trans KK.out (fun _ _ f => f) (fun _ _ f => f)
 have M4 := MM.out.kept KK.out (fun _ _ f => f)
 obtain ⟨v, hv⟩ : ∃ v, Value.slice (some ⟨w4.heap.size + 1, 0, none⟩) 1 1 = v := ⟨_, rfl⟩
 obtain ⟨q, hq⟩ : ∃ q, w4.heap.size = q := ⟨_, rfl⟩
 rw [hv]
 obtain ⟨w5, hw5⟩ : ∃ w5, w4.setCell ⟨m, 1, none⟩ v = w5 := ⟨_, rfl⟩
 rw [hw5]
 have k5 : Kept own w4 w5 := by rw [← hw5]; exact (Kept.refl _ _).setAt (fun _ => M4.om)
 have s5 : w5.heap.size = q := by rw [← hw5, ← hq]; simp
 have a0 : w5.cell? ⟨m, 0, none⟩ = some (.bool true) := by rw [← hw5]; simp [go_sem, z0]
 have a1 : w5.cell? ⟨m, 1, none⟩ = some v := by rw [← hw5]; simp [go_sem, z1]
 have a2 : w5.frozen? ⟨m, 1, none⟩ = false := by rw [← hw5, frozen_setCell]; exact zf
 obtain ⟨A, hA⟩ : ∃ A, Obj.cells #[Value.string ck, .int .i64 cs, .string cv] 132 = A := ⟨_, rfl⟩
 obtain ⟨B, hB⟩ : ∃ B, Obj.cells #[Value.slice (some ⟨w4.heap.size, 0, none⟩) 1 1] 305 = B := ⟨_, rfl⟩
 rw [hA, hB]
 have h1 := heap_first w5 A B
 have h2 := heap_second w5 A B
 rw [s5] at h1 h2
 have k7 : Kept own w5 ((w5.alloc A).alloc B) := ((Kept.refl _ _).alloc _).alloc _
 have s7 : ((w5.alloc A).alloc B).heap.size = q + 2 := by simp [s5]
 obtain ⟨w7, hw7⟩ : ∃ w7, (w5.alloc A).alloc B = w7 := ⟨_, rfl⟩
 have k7' : Kept (fun _ => False) w5 ((w5.alloc A).alloc B) := ((Kept.refl _ _).alloc _).alloc _
 rw [hw7] at h1 h2 k7 s7 k7' ⊢
 have lm : ∀ b, own b → b < q := fun b hb => by have := M4.ob b hb; omega
 have lw : w.heap.size ≤ q := by have := K4.size; omega
 refine ⟨fun b => own b ∨ b = q ∨ b = q + 1, [⟨q, 0, [⟨ck, cs, cv⟩], 1⟩], .inr ⟨by simp, q + 1, 1, ?_⟩, ⟨[], [], rfl, rfl, by simp, by simp⟩, fun b h => .inl h, fun b h => ?_, (K4.trans k5 (fun _ _ f => f.elim) (fun _ _ f => f)).trans k7 (fun _ _ f => f) (fun _ _ f => f)⟩
 ·refine ⟨k7'.cell a0 (fun f => f), ?_, k7'.frozen a2 (by rw [s5]; exact lm _ M4.om) (fun f => f), ?_, .inl M4.om, .inr (.inr rfl), fun e => ?_, fun p hp => ?_, List.pairwise_singleton _ _, fun b h => ?_⟩
  ·rw [k7'.cell a1 (fun f => f), ← hv, hq]
   rfl
  ·refine ⟨rfl, Nat.le_refl _, _, by rw [h2, ← hB], by simp, by simp [Pg.val, hq]⟩
  ·have := lm _ M4.om; omega
  ·rw [List.mem_singleton] at hp
   subst hp
   refine ⟨⟨rfl, by simp, rfl, Nat.le_refl _, _, by rw [h1, ← hA], by simp, by simp [cellsC]⟩, by simp, .inr (.inl rfl), fun e => ?_, fun e => ?_⟩
   ·simp only at e; have := lm _ M4.om; omega
   ·simp only at e; omega
  ·rw [s7]
   rcases h with h | h | h
   ·have := lm b h; omega
   ·omega
   ·omega
 ·rcases h with h | h | h
  ·exact .inl h
  ·exact .inr (by omega)
  ·exact .inr (by omega)
end Go.Proofs.YthknocapablpaaaGreatDoor

/- A memory behind a cell more: in a page that has room, or in two. -/
namespace Go.Proofs.YthknocapablpaaaGreatDoor
open Go.RowKit Go.Lib Go.Eng

theorem MemN.put {own : Nat → Prop} {w w' : World} {m G cap : Nat} {A B : List Pg} {p p' : Pg} (M : MemN 16 own w m G cap (A ++ p :: B)) (K : Kept (fun b => b = p.g) w w') (P : PgB w' p') (hl : p'.l.length ≤ 17) (hg : p'.g = p.g ∨ w.heap.size ≤ p'.g) :
  MemN 17 (fun b => own b ∨ b = p'.g) (w'.setCell ⟨G, A.length, none⟩ p'.val) m G cap (A ++ p' :: B) ∧ Kept (fun b => b = G) w' (w'.setCell ⟨G, A.length, none⟩ p'.val) := by
 have hp := M.pg p (by simp)
 have k8 : Kept (fun b => b = G) w' (w'.setCell ⟨G, A.length, none⟩ p'.val) := (Kept.refl _ _).setAt (fun _ => rfl)
 have pG : p'.g ≠ G := by
  rcases hg with e | e
  ·rw [e]; exact hp.2.2.2.2
  ·have := M.ob _ M.oG; omega
 have pm : p'.g ≠ m := by
  rcases hg with e | e
  ·rw [e]; exact hp.2.2.2.1
  ·have := M.ob _ M.om; omega
 have mp : ¬ m = p.g := fun e => hp.2.2.2.1 e.symm
 have Gp : ¬ G = p.g := fun e => hp.2.2.2.2 e.symm
 have mG : ¬ m = G := fun e => M.hG e.symm
 have ap := M.ap
 rw [List.pairwise_middle (fun h => Ne.symm h), List.pairwise_cons] at ap
 refine ⟨⟨k8.cell (K.cell M.c0 mp) mG, ?_, k8.frozen (K.frozen M.fz (M.ob _ M.om) mp) (Nat.lt_of_lt_of_le (M.ob _ M.om) K.size) mG, ?_, .inl M.om, .inl M.oG, M.hG, fun q hq => ?_, ?_, fun b h => ?_⟩, k8⟩
 ·have := k8.cell (K.cell M.c1 mp) mG
  rw [this]
  simp
 ·have := (M.row.kept K Gp).set (k := A.length) (u := p'.val)
  have e : ((A ++ p :: B).map Pg.val).set A.length p'.val = (A ++ p' :: B).map Pg.val := by simp
  rw [e] at this
  rw [show (A ++ p' :: B).length = (A ++ p :: B).length by simp]
  exact this
 ·rcases List.mem_append.1 hq with h | h
  ·obtain ⟨a1, a2, a3, a4, a5⟩ := M.pg q (by simp [h])
   have := ap.1 q (by simp [h])
   exact ⟨(a1.kept K (fun e => this e.symm)).kept k8 a5, by omega, .inl a3, a4, a5⟩
  ·rcases List.mem_cons.1 h with rfl | h
   ·exact ⟨P.kept k8 pG, hl, .inr rfl, pm, pG⟩
   ·obtain ⟨a1, a2, a3, a4, a5⟩ := M.pg q (by simp [h])
    have := ap.1 q (by simp [h])
    exact ⟨(a1.kept K (fun e => this e.symm)).kept k8 a5, by omega, .inl a3, a4, a5⟩
 ·rw [List.pairwise_middle (fun h => Ne.symm h), List.pairwise_cons]
  refine ⟨fun q hq => ?_, ap.2⟩
  rcases hg with e | e
  ·rw [e]; exact ap.1 q hq
  ·have : own q.g := (M.pg q (by rcases List.mem_append.1 hq with h | h <;> simp [h])).2.2.1
   have := M.ob _ this
   omega
 ·rcases h with h | rfl
  ·exact Nat.lt_of_lt_of_le (M.ob b h) (Nat.le_trans K.size k8.size)
  ·exact Nat.lt_of_lt_of_le P.2.2.lt k8.size
theorem MemN.small {own : Nat → Prop} {w : World} {m G cap : Nat} {A B : List Pg} {p : Pg} (M : MemN 17 own w m G cap (A ++ p :: B)) (hl : p.l.length ≤ 16) (h0 : ∀ q ∈ A ++ B, q.l.length ≤ 16) : MemN 16 own w m G cap (A ++ p :: B) :=
 ⟨M.c0, M.c1, M.fz, M.row, M.om, M.oG, M.hG, fun q hq => by
  obtain ⟨a1, a2, a3⟩ := M.pg q hq
  refine ⟨a1, ?_, a3⟩
  rcases List.mem_append.1 hq with h | h
  ·exact h0 q (by simp [h])
  ·rcases List.mem_cons.1 h with rfl | h
   ·exact hl
   ·exact h0 q (by simp [h]), M.ap, M.ob⟩
theorem MemN.split {own : Nat → Prop} {w w9 w10 : World} {m G cap G' cap' : Nat} {A B : List Pg} {p p1 p2 : Pg} (M : MemN 17 own w m G cap (A ++ p :: B)) (h0 : ∀ q ∈ A ++ B, q.l.length ≤ 16) (K9 : Kept (fun _ => False) w w9)
  (P1 : PgB w9 p1) (h1 : p1.g = p.g) (P2 : PgB w9 p2) (h2 : w.heap.size ≤ p2.g) (l1 : p1.l.length ≤ 16) (l2 : p2.l.length ≤ 16)
  (R : RowB w10 305 1 G' (A.length + 1 + B.length + 1) cap' (A.map Pg.val ++ [p1.val, p2.val] ++ B.map Pg.val)) (hG' : G' = G ∨ G' = w9.heap.size) (K10 : Kept (fun b => b = G) w9 w10) :
  MemN 16 (fun b => (own b ∨ b = p2.g) ∨ b = G') (w10.setCell ⟨m, 1, none⟩ (.slice (some ⟨G', 0, none⟩) (A.length + 1 + B.length + 1) cap')) m G' cap' (A ++ p1 :: p2 :: B) ∧ Kept (fun b => b = m) w10 (w10.setCell ⟨m, 1, none⟩ (.slice (some ⟨G', 0, none⟩) (A.length + 1 + B.length + 1) cap')) := by
 obtain ⟨v, hv⟩ : ∃ v, Value.slice (some ⟨G', 0, none⟩) (A.length + 1 + B.length + 1) cap' = v := ⟨_, rfl⟩
 rw [hv]
 have hp := M.pg p (by simp)
 have k11 : Kept (fun b => b = m) w10 (w10.setCell ⟨m, 1, none⟩ v) := (Kept.refl _ _).setAt (fun _ => rfl)
 have mG : ¬ m = G := fun e => M.hG e.symm
 have bm := M.ob _ M.om
 have bG := M.ob _ M.oG
 have s9 := K9.size
 have G'm : G' ≠ m := by
  rcases hG' with e | e
  ·rw [e]; exact M.hG
  ·omega
 have p2lt := P2.2.2.lt
 have big : ∀ b, own b → b < w.heap.size := M.ob
 have nG' : ∀ b, own b → b ≠ G → b ≠ G' := fun b h1 h2 e => by
  rcases hG' with e2 | e2
  ·exact h2 (e.trans e2)
  ·have := big b h1; omega
 have p2G' : p2.g ≠ G' := fun e => by
  rcases hG' with e2 | e2 <;> omega
 have ap := M.ap
 rw [List.pairwise_middle (fun h => Ne.symm h), List.pairwise_cons] at ap
 have c1 := K10.cell (K9.cell M.c1 (fun f => f)) mG
 have old : ∀ q ∈ A ++ B, PgB (w10.setCell ⟨m, 1, none⟩ v) q ∧ q.l.length ≤ 16 ∧ ((own q.g ∨ q.g = p2.g) ∨ q.g = G') ∧ q.g ≠ m ∧ q.g ≠ G' := fun q hq => by
  obtain ⟨a1, _, a3, a4, a5⟩ := M.pg q (by rcases List.mem_append.1 hq with h | h <;> simp [h])
  exact ⟨((a1.kept K9 (fun f => f)).kept K10 a5).kept k11 a4, h0 q hq, .inl (.inl a3), a4, nG' _ a3 a5⟩
 refine ⟨⟨?_, ?_, ?_, ?_, .inl (.inl M.om), .inr rfl, G'm, fun q hq => ?_, ?_, fun b h => ?_⟩, k11⟩
 ·have := K10.cell (K9.cell M.c0 (fun f => f)) mG
  simp [go_sem, this]
 ·rw [show (A ++ p1 :: p2 :: B).length = A.length + 1 + B.length + 1 by simp; omega, hv]
  simp [go_sem, c1]
 ·rw [frozen_setCell]
  exact K10.frozen (K9.frozen M.fz bm (fun f => f)) (Nat.lt_of_lt_of_le bm s9) mG
 ·have := R.kept k11 G'm
  rw [show (A ++ p1 :: p2 :: B).length = A.length + 1 + B.length + 1 by simp; omega]
  rw [show (A ++ p1 :: p2 :: B).map Pg.val = A.map Pg.val ++ [p1.val, p2.val] ++ B.map Pg.val by simp]
  exact this
 ·rcases List.mem_append.1 hq with h | h
  ·exact old q (by simp [h])
  ·rcases List.mem_cons.1 h with rfl | h
   ·exact ⟨(P1.kept K10 (by rw [h1]; exact hp.2.2.2.2)).kept k11 (by rw [h1]; exact hp.2.2.2.1), l1, .inl (.inl (by rw [h1]; exact hp.2.2.1)), by rw [h1]; exact hp.2.2.2.1, by rw [h1]; exact nG' _ hp.2.2.1 hp.2.2.2.2⟩
   ·rcases List.mem_cons.1 h with rfl | h
    ·exact ⟨(P2.kept K10 (fun (e : q.g = G) => by omega)).kept k11 (fun (e : q.g = m) => by omega), l2, .inl (.inr rfl), by omega, p2G'⟩
    ·exact old q (by simp [h])
 ·have o2 : ∀ q ∈ A ++ B, p2.g ≠ q.g := fun q hq => by
   have := big _ (M.pg q (by rcases List.mem_append.1 hq with h | h <;> simp [h])).2.2.1
   omega
  have hpl := big _ hp.2.2.1
  rw [List.pairwise_middle (fun h => Ne.symm h), List.pairwise_cons, List.pairwise_middle (fun h => Ne.symm h), List.pairwise_cons]
  refine ⟨fun q hq => ?_, o2, ap.2⟩
  rw [h1]
  rcases List.mem_append.1 hq with h | h
  ·exact ap.1 q (by simp [h])
  ·rcases List.mem_cons.1 h with rfl | h
   ·omega
   ·exact ap.1 q (by simp [h])
 ·have s10 := K10.size
  have s11 := k11.size
  rcases h with (h | rfl) | rfl
  ·have := big b h; omega
  ·omega
  ·have := R.lt; omega
end Go.Proofs.YthknocapablpaaaGreatDoor

