/- A part of the proof. -/
import Derived.Test.YtelhdbkkigehgaaGreatDoorProg
import Derived.Lib.Builder
import Derived.Lib.Walk
import Derived.Laws.Externs
import Derived.Shelf.Strings.Builder1
import Derived.Shelf.Spec.SlicesInsert
import Derived.Lib.AppendZerosOnto
import Derived.Laws.NewBlocks
import Derived.Shelf.GgClosure.StringsIndexFuncTop
import Derived.Shelf.SlIter.Nil
import Derived.Shelf.SortM.Plain
import Derived.Shelf.SortM.SortNone
import Derived.Ground.GgwProg
import Derived.Ground.GgzProg
import Derived.Ground.SlgmProg
import Derived.Laws.RangeString
import Derived.Lib.Bytealg
import Derived.Maps.Own
import Derived.Maps.RangeRun
import Derived.Shelf.SlSortCmp.NoneTotal
import Derived.Test.YtelhdbkkigehgaaGreatDoorZs4
import Derived.Test.YtelhdbkkigehgaaGreatDoorZs3

/- (*strings.Builder).copyCheck, as a summary. -/
namespace Go.Proofs.YtelhdbkkigehgaaGreatDoor
open Go.RowKit Go.Lib Go.Eng

set_option maxHeartbeats 1000000 in
set_option maxRecDepth 100000 in
theorem copy_used (b o : Nat) (w : World) (h0 : w.cell? ⟨b, o, none⟩ = some (.pointer (some ⟨b, o, none⟩))) :
    Calls Tryz.prog 55 #[.pointer (some ⟨b, o, none⟩)] w fun e w' => e = .returned (.tuple #[]) ∧ w' = w := by
  obtain ⟨j, hj, hjs⟩ : ∃ j, Tryz.prog.info? 73 = some j ∧ j.size = 2 := ⟨_, rfl, rfl⟩
  go_enter Tryz.func55, Tryz.ntmps55
  go_wp2
  rw [Lib.run_neq_ptr_same w _ Tryz.underlying70 hj]
  go_wp2
  go_end0
  exact ⟨rfl, rfl⟩

set_option maxHeartbeats 1000000 in
set_option maxRecDepth 100000 in
theorem copy_fresh (b o k : Nat) (w : World) (h0 : w.cell? ⟨b, o, none⟩ = some (.pointer none)) (hsh : w.shape? b = some (73, k)) (ho : o < k) (hl : liesAt Tryz.prog Tryz.prog.depth 73 (k / Tryz.prog.cellsOf 73) o 73 1 = true) (hfz : w.frozen? ⟨b, o, none⟩ = false) :
    Calls Tryz.prog 55 #[.pointer (some ⟨b, o, none⟩)] w fun e w' => e = .returned (.tuple #[]) ∧ w' = w.setCell ⟨b, o, none⟩ (.pointer (some ⟨b, o, none⟩)) := by
  obtain ⟨j, hj, hjs⟩ : ∃ j, Tryz.prog.info? 73 = some j ∧ j.size = 2 := ⟨_, rfl, rfl⟩
  go_enter Tryz.func55, Tryz.ntmps55
  go_wp2
  rw [Lib.run_to_unsafe w ⟨b, o, none⟩ Tryz.underlying70 Tryz.underlying170 hj (by rw [hjs]; decide) hsh ho]
  simp only [Result.andThen]
  rw [Oper.upon_value]
  go_wp2
  rw [run_callFunc_extern Tryz.func107 (by kernel_rfl) (by kernel_rfl) (by kernel_rfl) (e := Extern.AbiNoEscape.same) (by kernel_rfl)]
  rw [Lib.run_noEscape]
  simp only [Result.andThen]
  rw [Oper.upon_value]
  go_wp2
  rw [Lib.run_from_unsafe w ⟨b, o, none⟩ Tryz.underlying170 Tryz.underlying70 hj hsh hl]
  simp only [Result.andThen]
  rw [Oper.upon_value]
  go_wp2
  go_end0
  exact ⟨rfl, rfl⟩

theorem builder_lies (k o : Nat) (hk : o + 2 ≤ k) (ho : o % 2 = 0) : liesAt Tryz.prog Tryz.prog.depth 73 (k / Tryz.prog.cellsOf 73) o 73 1 = true := by
  have hc : Tryz.prog.cellsOf 73 = 2 := by kernel_rfl
  obtain ⟨d, hd⟩ : ∃ d, Tryz.prog.depth = d + 1 := ⟨_, rfl⟩
  have hs : sameLayout Tryz.prog Tryz.prog.depth 73 73 = true := by rw [hd]; simp [sameLayout]
  rw [hc]
  unfold liesAt
  rw [hd]
  simp only
  rw [← hd]
  have : rowAt Tryz.prog (fun x => sameLayout Tryz.prog Tryz.prog.depth x 73) Tryz.prog.depth 73 (k / 2) o 1 = true := by
    rw [hd]
    unfold rowAt
    simp only [hc]
    rw [← hd, hs, ho]
    have : o / 2 + 1 ≤ k / 2 := by omega
    simp [this]
  rw [this]
  rfl

noncomputable section
/-- The builder's first cell is its own address. -/
def copyS (args : List AV) (h : Heap) (c : Nat) : Option CRes := match args with
  | [.ptr n 0] => match h.get n with
    | some (.cells t [p, v]) => bif Nat.beq t 73 then
        match p with
        | .nilp => match putObj h n (some (.cells t [.ptr n 0, v])) fun h => some (.val uv h c) with
          | some (.val u h c) => some (.mk u h c)
          | _ => none
        | .ptr m 0 => bif Nat.beq n m then some (.mk uv h c) else none
        | _ => none
      else none
    | _ => none
  | _ => none
end

theorem copy_ok {η : Env} {args : List AV} {h : Heap} {c : Nat} {v : AV} {h' : Heap} {c' : Nat} (he : copyS args h c = some (.mk v h' c')) {σ : Sig} {w : World} {avs : List Value} (H : HR Tryz.prog σ η h c w) (ha : concs σ η args = some avs) : Calls Tryz.prog 55 avs.toArray w (Done Tryz.prog η σ h c w v h' c') := by
  unfold copyS at he
  split at he
  rotate_left
  · cases he
  rename_i n
  obtain ⟨pv, rs, hp, hr, rfl⟩ := concs_cons.1 ha
  simp only [concs, Option.some.injEq] at hr
  subst hr
  obtain ⟨l, hl, rfl⟩ := conc_ptr.1 hp
  split at he
  rotate_left
  · cases he
  rename_i t p v0 hg
  cases ht : Nat.beq t 73 with
  | false => simp [ht] at he
  | true =>
  simp only [ht, cond_true] at he
  have ht := Nat.eq_of_beq_eq_true ht
  subst ht
  obtain ⟨l', hl', ob⟩ := H.obj n _ hg
  rw [hl] at hl'
  cases hl'
  obtain ⟨C, fr, vs, k1, k2, k3, k4, k5, k6, k7⟩ := ob
  obtain ⟨u, us, q1, q2, rfl⟩ := concs_cons.1 k3
  obtain ⟨u2, us2, q3, q4, rfl⟩ := concs_cons.1 q2
  simp only [concs, Option.some.injEq] at q4
  subst q4
  have hcell : w.cell? ⟨l.blk, l.off, none⟩ = some u := by
    simp only [World.cell?, k1]
    simpa using k5 0 u rfl
  have hc2 : Tryz.prog.cellsOf 73 = 2 := by kernel_rfl
  rw [hc2] at k7
  simp only [List.length_cons, List.length_nil] at k6
  split at he
  · simp only [conc, Option.some.injEq] at q1
    subst q1
    unfold putObj at he
    cases hb : Nat.ble n bigN with
    | false => simp [hb] at he
    | true =>
    simp only [hb, cond_true, setK_eq, Option.some.injEq, CRes.mk.injEq] at he
    obtain ⟨rfl, rfl, rfl⟩ := he
    have hf : w.frozen? ⟨l.blk, l.off, none⟩ = false := by
      simp only [World.frozen?, k1]
      simpa using k2 l.off (Nat.lt_of_lt_of_le (by omega) lim_le)
    refine Calls.mono (copy_fresh l.blk l.off C.size w hcell (by simp only [World.shape?, k1]) (by omega) (builder_lies _ _ (by omega) k7) hf) ?_
    rintro e w' ⟨rfl, rfl⟩
    refine ⟨_, σ, rfl, rfl, ?_⟩
    have hlay : lay? [.nilp, v0] 0 [.ptr n 0] = some [.ptr n 0, v0] := rfl
    obtain ⟨w1, r1, wt⟩ := lay_ok H (cells?_iff.2 hg) (Nat.le_of_ble_eq_true hb) hl hlay (concs_cons.2 ⟨_, [], hp, rfl, rfl⟩) rfl
    simp only [storeCells, Sem.run_bind, Addr.add_zero', Nat.add_zero] at r1
    rw [run_store _ _ _ _ _ rfl] at r1
    simp only [hcell, hf, Bool.false_eq_true, if_false, Result.andThen_ok, Sem.run_pure, Result.ok.injEq, true_and] at r1
    rw [← r1] at wt
    exact wt
  · rename_i m
    cases hb : Nat.beq n m with
    | false => simp [hb] at he
    | true =>
    simp only [hb, cond_true, Option.some.injEq, CRes.mk.injEq] at he
    have := Nat.eq_of_beq_eq_true hb
    subst this
    obtain ⟨rfl, rfl, rfl⟩ := he
    obtain ⟨l2, hl2, rfl⟩ := conc_ptr.1 q1
    rw [hl] at hl2
    cases hl2
    refine Calls.mono (copy_used l.blk l.off w hcell) ?_
    rintro e w' ⟨rfl, rfl⟩
    exact ⟨_, σ, rfl, rfl, Went.refl H⟩
  · cases he

end Go.Proofs.YtelhdbkkigehgaaGreatDoor

/- slices.Insert of one cell of a page (api.Cell lies in three cells). -/
namespace Go.Proofs.YtelhdbkkigehgaaGreatDoor
open Go.RowKit Go.Lib Go.Eng

/-- copy, where what is loaded and what is stored is known. -/
theorem run_copy3 {dt e size : Nat} {ats : Array TypeId} {ty : TypeId} {a b : Addr} {len cap sl sc m : Nat} {V : List Value} {w w' : World} (h0 : ats[0]? = some dt) (hu : Tryz.prog.underlying dt = some (.slice e)) (hs : ∀ w, (sizeOf e).run Tryz.prog w = .ok size w)
    (hm : Nat.min sl len = m) (hl : (loadCells b (m * size)).run Tryz.prog w = .ok V.toArray w) (hst : (storeCells a V).run Tryz.prog w = .ok () w') :
    (Builtin.copy_ ats ty #[.slice (some a) len cap, .slice (some b) sl sc]).run Tryz.prog w = .ok (goInt m) w' := by
  have v0 : (#[Value.slice (some a) len cap, .slice (some b) sl sc])[0]? = some (Value.slice (some a) len cap) := rfl
  have v1 : (#[Value.slice (some a) len cap, .slice (some b) sl sc])[1]? = some (Value.slice (some b) sl sc) := rfl
  have hf : (Builtin.firstCells size m (.slice (some b) sl sc)).run Tryz.prog w = .ok V.toArray w := hl
  simp only [Builtin.copy_, h0, v0, v1, Sem.run_bind, run_underlying hu, Result.andThen_ok, Builtin.lenOf, Sem.run_pure, hm, hs, hf, hst]

theorem loads3 {w : World} {b o n : Nat} {C : Array Value} {t : TypeId} {fr : Nat × Nat} (hb : w.heap[b]? = some (.cells C t fr)) {cs : List Value} (hcl : cs.length = n) (hcs : ∀ j v, cs[j]? = some v → C[o + j]? = some v) :
    (loadCells ⟨b, o, none⟩ n).run Tryz.prog w = .ok cs.toArray w := by
  have := run_loadCells_list (P := Tryz.prog) w ⟨b, o, none⟩ cs (fun j v hj => by
    rw [Addr.add_lit]
    simp only [World.cell?, hb]
    simpa using hcs j v hj)
  rwa [hcl] at this

set_option maxHeartbeats 4000000 in
set_option maxRecDepth 100000 in
theorem insert_shift (b off n c i vb voff vc : Nat) (C D : Array Value) (t tA : TypeId) (fr frA : Nat × Nat) (cs vs : List Value) (w : World)
    (hb : w.heap[b]? = some (.cells C t fr)) (hfr : ∀ j, j < C.size → ¬ (fr.1 ≤ j ∧ j < fr.2)) (hA : w.heap[vb]? = some (.cells D tA frA)) (hfA : ∀ j, j < D.size → ¬ (frA.1 ≤ j ∧ j < frA.2)) (hfe : w.frozen? ⟨vb, D.size, none⟩ = false) (hne : vb ≠ b)
    (hi : i < n) (hroom : n + 1 ≤ c) (hn : n < appendMax) (hfit : off + (n + 1) * 3 ≤ C.size)
    (hcl : cs.length = n * 3) (hcs : ∀ j v, cs[j]? = some v → C[off + j]? = some v) (h1c : allOne cs = true)
    (hvl : vs.length = 3) (hvs : ∀ j v, vs[j]? = some v → D[voff + j]? = some v) (h1v : allOne vs = true) :
    Calls Tryz.prog 387 #[.slice (some ⟨b, off, none⟩) n c, .int .i64 i, .slice (some ⟨vb, voff, none⟩) 1 vc] w fun e w' =>
      e = .returned (.slice (some ⟨b, off, none⟩) (n + 1) c) ∧ w' = { w.drew with heap := w.heap.setIfInBounds b (.cells ⟨layL (layL C.toList (off + (i + 1) * 3) (cs.drop (i * 3))) (off + i * 3) vs⟩ t fr) } := by
  have hz2 : ¬ ((i : Int) = (n : Int)) := by omega
  have hv3 : voff + 3 ≤ D.size := by
    have := hvs 2 _ (List.getElem?_eq_getElem (by omega))
    rcases Nat.lt_or_ge (voff + 2) D.size with h | h
    · omega
    · rw [Array.getElem?_eq_none h] at this; cases this
  have hfa : w.frozen? ⟨vb, voff, none⟩ = false := by
    simp only [World.frozen?, hA]
    simpa using hfA voff (by omega)
  have hov : ∀ lb cb, (callFunc 482 #[.slice (some ⟨vb, voff, none⟩) 1 vc, .slice (some ⟨b, off + (i + 1) * 3, none⟩) lb cb]).run Tryz.prog w = .ok (.value (.bool false)) w := fun lb cb => by
    rw [run_callFunc_extern Tryz.func482 (by kernel_rfl) (by kernel_rfl) (by kernel_rfl) (e := Extern.SlicesOverlaps.overlaps #[192, 192] #[250]) (by kernel_rfl),
      Lib.run_overlaps_apart w 192 250 250 Tryz.underlying192 3 Tryz.sizeOf250 ⟨vb, voff, none⟩ ⟨b, off + (i + 1) * 3, none⟩ 1 vc lb cb hne tA t D.size C.size (by simp only [World.shape?, hA]) (by simp only [World.shape?, hb]) (by omega) hfa hfe]
    rfl
  have hlt : b < w.heap.size := by
    rcases Nat.lt_or_ge b w.heap.size with h | h
    · exact h
    · rw [Array.getElem?_eq_none h] at hb; cases hb
  have hdl : (cs.drop (i * 3)).length = (n - i) * 3 := by rw [List.length_drop, hcl]; omega
  obtain ⟨C1, hC1⟩ : ∃ C1 : Array Value, C1 = ⟨layL C.toList (off + (i + 1) * 3) (cs.drop (i * 3))⟩ := ⟨_, rfl⟩
  have hC1s : C1.size = C.size := by
    rw [hC1]
    simp only [List.size_toArray]
    rw [layL_length (by rw [hdl]; simp only [Array.length_toList]; omega)]
    simp
  obtain ⟨W1, hW1⟩ : ∃ W1 : World, W1 = { w.drew with heap := w.heap.setIfInBounds b (.cells C1 t fr) } := ⟨_, rfl⟩
  have hcp1 : ∀ ty dc sc, (Builtin.copy_ #[342, 342] ty #[.slice (some ⟨b, off + (i + 1) * 3, none⟩) (n - i) dc, .slice (some ⟨b, off + i * 3, none⟩) (n + 1 - i) sc]).run Tryz.prog w.drew = .ok (goInt (n - i : Nat)) W1 := fun ty dc sc => by
    refine run_copy3 (e := 250) (size := 3) (V := cs.drop (i * 3)) rfl Tryz.underlying342 Tryz.sizeOf250 (by simp only [Nat.min_def]; split <;> omega) ?_ ?_
    · exact loads3 (w := w.drew) (t := t) (fr := fr) hb hdl (fun j v hj => by
        rw [List.getElem?_drop] at hj
        have := hcs _ v hj
        rwa [← Nat.add_assoc] at this)
    · rw [hW1, hC1]
      have := run_storeCells (P := Tryz.prog) (w := w.drew) hb hfr (cs.drop (i * 3)) (off + (i + 1) * 3) 0 (allOne_iff.2 fun v hv => allOne_iff.1 h1c v (List.mem_of_mem_drop hv)) (by omega)
      exact this
  obtain ⟨W2, hW2⟩ : ∃ W2 : World, W2 = { w.drew with heap := w.heap.setIfInBounds b (.cells ⟨layL C1.toList (off + i * 3) vs⟩ t fr) } := ⟨_, rfl⟩
  have hcp2 : ∀ ty dc, (Builtin.copy_ #[342, 192] ty #[.slice (some ⟨b, off + i * 3, none⟩) (n + 1 - i) dc, .slice (some ⟨vb, voff, none⟩) 1 vc]).run Tryz.prog W1 = .ok (goInt (1 : Nat)) W2 := fun ty dc => by
    refine run_copy3 (e := 250) (size := 3) (V := vs) rfl Tryz.underlying342 Tryz.sizeOf250 (by simp only [Nat.min_def]; split <;> omega) ?_ ?_
    · refine loads3 (w := W1) (t := tA) (fr := frA) (C := D) ?_ hvl hvs
      rw [hW1]
      simp only [Array.getElem?_setIfInBounds_ne (Ne.symm hne)]
      exact hA
    · have h1 : W1.heap[b]? = some (.cells C1 t fr) := by
        rw [hW1]
        simp only [Array.getElem?_setIfInBounds_self, if_pos hlt]
      have := run_storeCells (P := Tryz.prog) (w := W1) h1 (by rw [hC1s]; exact hfr) vs (off + i * 3) 0 h1v (by omega)
      refine this.trans ?_
      rw [hW2, hW1]
      simp only [Array.setIfInBounds_setIfInBounds, Nat.add_zero]
  have hfin : W2 = { w.drew with heap := w.heap.setIfInBounds b (.cells ⟨layL (layL C.toList (off + (i + 1) * 3) (cs.drop (i * 3))) (off + i * 3) vs⟩ t fr) } := by rw [hW2, hC1]
  rw [← hfin]
  have hw1 : IntKind.i64.wrap ((i : Int) + 1) = (i : Int) + 1 := by rw [IntKind.wrap_i64]; unfold appendMax at hn; omega
  have hw2 : IntKind.i64.wrap ((n : Int) + 1) = (n : Int) + 1 := by rw [IntKind.wrap_i64]; unfold appendMax at hn; omega
  have hb1 : (0 : Int) ≤ (i : Int) + 1 := by omega
  have hin : i ≤ n := by omega
  have htn : ((i : Int) + 1).toNat = i + 1 := by omega
  have htn2 : ((n : Int) + 1).toNat = n + 1 := by omega
  have hb2 : ¬ (c = i + 1) := by omega
  have hb3 : (i : Int) ≤ (n : Int) + 1 := by omega
  have hb4 : ¬ (c = i) := by omega
  have mixed : Tryz.prog.follows .mixedOrders = true := by kernel_rfl
  have hb5 : ¬ ((c : Int) < (n : Int) + 1) := by omega
  clear hfin hW1 hW2 hC1 hC1s hA hfA hfe hfa hv3 hcs hvs hfr hfit hcl hvl h1c h1v hb hdl
  go_enter Tryz.func387, Tryz.ntmps387
  go_wp2_with (simp only [hov])
  go_region_law_o (refine step_copy_runI rfl _ _ 342 342 rfl _ _ (by simp [Act.eval, Act.put]) (by simp [Act.eval, Act.put]) (hcp1 _ _ _) ?_)
  go_wp2_with (at_builtin; refine wpList_copy_runI _ rfl _ _ 342 192 rfl _ _ rfl rfl (hcp2 _ _) ?_)
  go_ret
  exact ⟨rfl, rfl⟩

end Go.Proofs.YtelhdbkkigehgaaGreatDoor

/- slices.Insert of one cell of a page: a new row. -/
namespace Go.Proofs.YtelhdbkkigehgaaGreatDoor
open Go.RowKit Go.Lib Go.Eng

set_option maxHeartbeats 4000000 in
set_option maxRecDepth 100000 in
theorem insert_grow (b off n c i vb voff vc : Nat) (C D : Array Value) (t tA : TypeId) (fr frA : Nat × Nat) (cs vs : List Value) (w : World)
    (hb : w.heap[b]? = some (.cells C t fr)) (hA : w.heap[vb]? = some (.cells D tA frA))
    (hi : i < n) (hn : n < appendMax) (hnc : n ≤ c) (hroom : c < n + 1)
    (hcl : cs.length = n * 3) (hcs : ∀ j v, cs[j]? = some v → C[off + j]? = some v) (h1c : allOne cs = true)
    (hvl : vs.length = 3) (hvs : ∀ j v, vs[j]? = some v → D[voff + j]? = some v) (h1v : allOne vs = true) :
    Calls Tryz.prog 387 #[.slice (some ⟨b, off, none⟩) n c, .int .i64 i, .slice (some ⟨vb, voff, none⟩) 1 vc] w fun e w' => ∃ (k : Nat) (A : Array Value),
      e = .returned (.slice (some ⟨w.heap.size, 0, none⟩) (n + 1) (n + 1 + k)) ∧ w'.heap = w.heap.push (.cells A 250 (0, 0)) ∧ w'.os = w.os ∧ w'.tape = w.tape ∧ w'.output = w.output ∧
      (n + 1) * 3 + k * 3 ≤ A.size ∧ ∀ (j : Nat) (v : Value), (cs.take (i * 3) ++ vs ++ cs.drop (i * 3))[j]? = some v → A[j]? = some v := by
  have hz2 : ¬ ((i : Int) = (n : Int)) := by omega
  have hbw : b < w.heap.size := by
    rcases Nat.lt_or_ge b w.heap.size with h | h
    · exact h
    · rw [Array.getElem?_eq_none h] at hb; cases hb
  have hvw : vb < w.heap.size := by
    rcases Nat.lt_or_ge vb w.heap.size with h | h
    · exact h
    · rw [Array.getElem?_eq_none h] at hA; cases hA
  obtain ⟨inf, hinf, hbytes, Z, hZ, hZs, hZv⟩ : ∃ inf, Tryz.prog.info? 250 = some inf ∧ inf.bytes ≤ appendMax ∧ ∃ Z, inf.zero = some Z ∧ Z.cells.size = 3 ∧ ∀ w', (zeroValue 250).run Tryz.prog w' = .ok Z w' :=
    ⟨_, rfl, by decide, _, rfl, rfl, Tryz.zeroValue250⟩
  have htk : (cs.take (i * 3)).length = i * 3 := by rw [List.length_take, hcl]; omega
  obtain ⟨k, hap⟩ := run_append_grow' (P := Tryz.prog) (st := 342) (e := 250) (size := 3) (n := n + 1 - i) (len := i) (cap := c) («as» := #[342, 3]) (vs := #[.slice (some ⟨b, off, none⟩) i c, .int .i64 (Int.ofNat (n + 1 - i))]) (ty := 342)
    (base := some ⟨b, off, none⟩) (zeros := true) (N := Builtin.zeroCells Z.cells (n + 1 - i)) (OLD := (cs.take (i * 3)).toArray) (i := inf) (Z := Z) (w := w)
    rfl rfl rfl Tryz.underlying342 rfl hinf hbytes (.inr ⟨3, _, rfl, Tryz.underlying3, rfl⟩) (by unfold appendMax at *; omega) (by unfold appendMax at *; omega) hZv (fun _ => ⟨⟨_, rfl⟩, rfl⟩) (fun q => by cases q)
    (by rw [← Array.length_toList, zeroCells_eq, List.length_flatten]; simp [hZs]) (fun w' hw' => by
      have := loads3 (w := w') (b := b) (o := off) (t := t) (fr := fr) (C := C) (by rw [hw']; exact hb) htk (fun j v hj => by
        rw [List.getElem?_take] at hj
        split at hj
        · exact hcs j v hj
        · cases hj)
      exact this) (by omega)
  have hin1 : i + (n + 1 - i) = n + 1 := by omega
  have hii : (Int.ofNat (n + 1 - i)) = (n : Int) + 1 - (i : Int) := by simp only [Int.ofNat_eq_natCast]; omega
  rw [hin1, hii] at hap
  obtain ⟨A0, hA0⟩ : ∃ A0 : Array Value, A0 = (cs.take (i * 3)).toArray ++ Builtin.zeroCells Z.cells (n + 1 - i) ++ Builtin.zeroCells Z.cells k := ⟨_, rfl⟩
  rw [← hA0] at hap
  have zs : ∀ q, (Builtin.zeroCells Z.cells q).size = q * 3 := fun q => by rw [← Array.length_toList, zeroCells_eq, List.length_flatten]; simp [hZs]
  have hA0s : A0.size = (n + 1) * 3 + k * 3 := by
    rw [hA0]
    simp only [Array.size_append, List.size_toArray, htk, zs]
    omega
  obtain ⟨W0, hW0⟩ : ∃ W0 : World, W0 = w.drew.alloc (.cells A0 250) := ⟨_, rfl⟩
  rw [← hW0] at hap
  have g0 : W0.heap[w.heap.size]? = some (.cells A0 250 (0, 0)) := by
    rw [hW0]
    exact Array.getElem?_push_size
  have g1 : ∀ q, q < w.heap.size → W0.heap[q]? = w.heap[q]? := fun q hq => by rw [hW0]; exact Below.heap_alloc _ _ q hq
  obtain ⟨A1, hA1⟩ : ∃ A1 : Array Value, A1 = ⟨layL A0.toList (i * 3) vs⟩ := ⟨_, rfl⟩
  have hA1s : A1.size = A0.size := by
    rw [hA1]
    simp only [List.size_toArray]
    rw [layL_length (by rw [hvl]; simp only [Array.length_toList]; omega)]
    simp
  obtain ⟨W1, hW1⟩ : ∃ W1 : World, W1 = { W0 with heap := W0.heap.setIfInBounds w.heap.size (.cells A1 250 (0, 0)) } := ⟨_, rfl⟩
  have h1 : W1.heap[w.heap.size]? = some (.cells A1 250 (0, 0)) := by
    have : w.heap.size < W0.heap.size := by rw [hW0]; simp [World.alloc]
    rw [hW1]; simp only [Array.getElem?_setIfInBounds_self, if_pos this]
  have h1o : ∀ q, q < w.heap.size → W1.heap[q]? = w.heap[q]? := fun q hq => by
    rw [hW1]
    have : w.heap.size ≠ q := by omega
    simp only [Array.getElem?_setIfInBounds_ne this]
    exact g1 q hq
  have hcp1 : ∀ ty dc, (Builtin.copy_ #[342, 192] ty #[.slice (some ⟨w.heap.size, i * 3, none⟩) (n + 1 - i) dc, .slice (some ⟨vb, voff, none⟩) 1 vc]).run Tryz.prog W0 = .ok (goInt (1 : Nat)) W1 := fun ty dc => by
    refine run_copy3 (e := 250) (size := 3) (V := vs) rfl Tryz.underlying342 Tryz.sizeOf250 (by simp only [Nat.min_def]; split <;> omega) ?_ ?_
    · exact loads3 (w := W0) (t := tA) (fr := frA) (C := D) (by rw [g1 vb hvw]; exact hA) hvl hvs
    · have := run_storeCells (P := Tryz.prog) (w := W0) g0 (fun j _ q => by omega) vs (i * 3) 0 h1v (by omega)
      refine this.trans ?_
      rw [hW1, hA1]
      simp only [Nat.add_zero]
  have hdl : (cs.drop (i * 3)).length = (n - i) * 3 := by rw [List.length_drop, hcl]; omega
  obtain ⟨A2, hA2⟩ : ∃ A2 : Array Value, A2 = ⟨layL A1.toList ((i + 1) * 3) (cs.drop (i * 3))⟩ := ⟨_, rfl⟩
  have hA2s : A2.size = A0.size := by
    rw [hA2]
    simp only [List.size_toArray]
    rw [layL_length (by rw [hdl]; simp only [Array.length_toList]; omega)]
    simp [hA1s]
  obtain ⟨W2, hW2⟩ : ∃ W2 : World, W2 = { W1.drew with heap := W1.heap.setIfInBounds w.heap.size (.cells A2 250 (0, 0)) } := ⟨_, rfl⟩
  have hcp2 : ∀ ty dc sc, (Builtin.copy_ #[342, 342] ty #[.slice (some ⟨w.heap.size, (i + 1) * 3, none⟩) (n - i) dc, .slice (some ⟨b, off + i * 3, none⟩) (n - i) sc]).run Tryz.prog W1.drew = .ok (goInt (n - i : Nat)) W2 := fun ty dc sc => by
    refine run_copy3 (e := 250) (size := 3) (V := cs.drop (i * 3)) rfl Tryz.underlying342 Tryz.sizeOf250 (by simp only [Nat.min_def]; split <;> omega) ?_ ?_
    · refine loads3 (w := W1.drew) (t := t) (fr := fr) (C := C) ((h1o b hbw).trans hb) hdl (fun j v hj => by
        rw [List.getElem?_drop] at hj
        have := hcs _ v hj
        rwa [← Nat.add_assoc] at this)
    · have := run_storeCells (P := Tryz.prog) (w := W1.drew) h1 (fun j _ q => by omega) (cs.drop (i * 3)) ((i + 1) * 3) 0 (allOne_iff.2 fun v hv => allOne_iff.1 h1c v (List.mem_of_mem_drop hv)) (by omega)
      refine this.trans ?_
      rw [hW2, hA2]
      rfl
  have hfin : W2.heap = w.heap.push (.cells A2 250 (0, 0)) ∧ W2.os = w.os ∧ W2.tape = w.tape ∧ W2.output = w.output := by
    rw [hW2, hW1, hW0]
    refine ⟨?_, rfl, rfl, rfl⟩
    simp only [Array.setIfInBounds_setIfInBounds]
    apply Array.ext_getElem?
    intro q
    rw [Array.getElem?_setIfInBounds]
    simp only [World.alloc]
    by_cases e : w.heap.size = q
    · subst e; simp
    · rw [if_neg e]
      simp only [World.drew]
      rw [Array.getElem?_push, Array.getElem?_push]
      rw [if_neg (by omega), if_neg (by omega)]
  have hget : ∀ (j : Nat) (v : Value), (cs.take (i * 3) ++ vs ++ cs.drop (i * 3))[j]? = some v → A2[j]? = some v := by
    intro j v hj
    rw [hA2]
    simp only [List.getElem?_toArray]
    rw [layL_get (by rw [hdl]; simp only [Array.length_toList]; omega)]
    rcases Nat.lt_or_ge j ((i + 1) * 3) with q | q
    · rw [if_pos q, hA1]
      simp only
      rw [layL_get (by rw [hvl]; simp only [Array.length_toList]; omega)]
      rw [List.getElem?_append_left (by rw [List.length_append, htk, hvl]; omega)] at hj
      rcases Nat.lt_or_ge j (i * 3) with q2 | q2
      · rw [if_pos q2]
        rw [List.getElem?_append_left (by rw [htk]; omega)] at hj
        rw [hA0]
        simp only [Array.toList_append, List.append_assoc]
        rw [List.getElem?_append_left (by simp only [htk]; omega)]
        exact hj
      · rw [if_neg (by omega), if_pos (by omega)]
        rw [List.getElem?_append_right (by rw [htk]; omega), htk] at hj
        exact hj
    · have hlt : j < (cs.take (i * 3) ++ vs ++ cs.drop (i * 3)).length := by
        rcases Nat.lt_or_ge j (cs.take (i * 3) ++ vs ++ cs.drop (i * 3)).length with h | h
        · exact h
        · rw [List.getElem?_eq_none h] at hj; cases hj
      simp only [List.length_append, htk, hvl, hdl] at hlt
      rw [if_neg (by omega), if_pos (by rw [hdl]; omega)]
      rw [List.getElem?_append_right (by rw [List.length_append, htk, hvl]; omega), List.length_append, htk, hvl] at hj
      rw [← hj]
      congr 1
      omega
  have hfz : (n + 1) * 3 + k * 3 ≤ A2.size := by omega
  have hw1 : IntKind.i64.wrap ((i : Int) + 1) = (i : Int) + 1 := by rw [IntKind.wrap_i64]; unfold appendMax at hn; omega
  have hw2 : IntKind.i64.wrap ((n : Int) + 1) = (n : Int) + 1 := by rw [IntKind.wrap_i64]; unfold appendMax at hn; omega
  have hw3 : IntKind.i64.wrap ((n : Int) + 1 - (i : Int)) = (n : Int) + 1 - (i : Int) := by rw [IntKind.wrap_i64]; unfold appendMax at hn; omega
  have hb1 : (0 : Int) ≤ (i : Int) + 1 := by omega
  have hin : i ≤ n := by omega
  have htn : ((i : Int) + 1).toNat = i + 1 := by omega
  have hb2 : ¬ (n + 1 + k = i + 1) := by omega
  have hb3 : (i : Int) ≤ (n : Int) + 1 := by omega
  have hb4 : ¬ (c = i) := by omega
  have hb5 : (c : Int) < (n : Int) + 1 := by omega
  have hb6 : ¬ (n + 1 + k = i) := by omega
  have hb7 : i ≤ n + 1 := by omega
  have mixed : Tryz.prog.follows .mixedOrders = true := by kernel_rfl
  obtain ⟨G, hG⟩ : ∃ G, G = n + 1 + k := ⟨_, rfl⟩
  have hG1 : n + 1 ≤ G := by omega
  rw [← hG] at hap hb2 hb6
  have hG2 : k = G - (n + 1) := by omega
  clear hG
  rw [hG2] at hfz
  clear hG2
  clear hW1 hW2 hW0 hA1 hA2 hA0 hA1s hA2s hA0s g0 g1 h1 h1o hb hA hcs hvs hcl hvl h1c h1v hdl zs htk hZ hZs hZv hinf hbytes hii hin1
  go_enter Tryz.func387, Tryz.ntmps387
  go_wp2_with (first
    | (at_builtin; refine Lib.wpList_append_run _ rfl _ _ _ _ rfl _ _ rfl rfl _ _ hap ?_)
    | (at_builtin; refine wpList_copy_runI _ rfl _ _ 342 192 rfl _ _ rfl rfl (hcp1 _ _) ?_))
  go_region_law_o (refine step_copy_runI rfl _ _ 342 342 rfl _ _ (by simp [Act.eval, Act.put]) (by simp [Act.eval, Act.put]) (hcp2 _ _ _) ?_)
  go_wp2
  go_ret
  exact ⟨G - (n + 1), A2, by rw [show n + 1 + (G - (n + 1)) = G by omega]; rfl, hfin.1, hfin.2.1, hfin.2.2.1, hfin.2.2.2, hfz, hget⟩

end Go.Proofs.YtelhdbkkigehgaaGreatDoor

/- slices.Insert of one cell of a page, as a summary. -/
namespace Go.Proofs.YtelhdbkkigehgaaGreatDoor
open Go.RowKit Go.Lib Go.Eng

set_option maxHeartbeats 4000000 in
set_option maxRecDepth 100000 in
theorem insert_end (b off n c vb voff vc : Nat) (u : Value) (w w1 : World)
    (h : (Builtin.append_ #[342, 192] 342 #[.slice (some ⟨b, off, none⟩) n c, .slice (some ⟨vb, voff, none⟩) 1 vc]).run Tryz.prog w = .ok u w1) :
    Calls Tryz.prog 387 #[.slice (some ⟨b, off, none⟩) n c, .int .i64 n, .slice (some ⟨vb, voff, none⟩) 1 vc] w fun e w' => e = .returned u ∧ w' = w1 := by
  have mixed : Tryz.prog.follows .mixedOrders = true := by kernel_rfl
  have hnn : n ≤ n := Nat.le_refl _
  go_enter Tryz.func387, Tryz.ntmps387
  go_wp2_with (at_builtin; refine Lib.wpList_append_run _ rfl _ _ _ _ rfl _ _ rfl rfl _ _ h ?_)
  all_goals
    go_ret
    exact ⟨rfl, rfl⟩

set_option maxHeartbeats 4000000 in
set_option maxRecDepth 100000 in
theorem insert_nil (vb voff vc : Nat) (u : Value) (w w1 : World)
    (h : (Builtin.append_ #[342, 192] 342 #[.slice none 0 0, .slice (some ⟨vb, voff, none⟩) 1 vc]).run Tryz.prog w = .ok u w1) :
    Calls Tryz.prog 387 #[.slice none 0 0, .int .i64 0, .slice (some ⟨vb, voff, none⟩) 1 vc] w fun e w' => e = .returned u ∧ w' = w1 := by
  have mixed : Tryz.prog.follows .mixedOrders = true := by kernel_rfl
  go_enter Tryz.func387, Tryz.ntmps387
  go_wp2_with (at_builtin; refine Lib.wpList_append_run _ rfl _ _ _ _ rfl _ _ rfl rfl _ _ h ?_)
  go_ret
  exact ⟨rfl, rfl⟩

noncomputable section
def outC : Option Out → Option CRes
  | some (.val v h c) => some (.mk v h c)
  | _ => none
/-- slices.Insert of one cell. -/
def insS (args : List AV) (h : Heap) (c : Nat) : Option CRes := match args with
  | [s, .int .i64 (.ofNat i), .slice n' o' 1 cp fl'] => match s with
    | .nils => bif Nat.beq i 0 then outC (aAppend Tryz.prog h c 342 (some 192) .nils (.slice n' o' 1 cp fl')) else none
    | .slice n o len cap fl => bif Nat.ble (len + 1) appendMax && Nat.ble len cap then
        bif Nat.beq i len then outC (aAppend Tryz.prog h c 342 (some 192) (.slice n o len cap fl) (.slice n' o' 1 cp fl'))
        else bif Nat.ble (i + 1) len && fl && !Nat.beq n n' && Nat.beq (Nat.mod o 3) 0 then
          (cells? h n).bind fun tc => (row? tc.2 o (len * 3)).bind fun r => (cells? h n').bind fun tc' => (row? tc'.2 o' 3).bind fun vs =>
            bif Nat.beq tc.1 250 && Nat.beq tc'.1 250 && Nat.beq (o + cap * 3) tc.2.length then
              outC (putObj h n none fun h => newCells h c 250 (r.take (i * 3) ++ vs ++ r.drop (i * 3)) (.slice c 0 (len + 1) (len + 1) true))
            else none
        else none
      else none
    | _ => none
  | _ => none
end

theorem outC_some {o : Option Out} {v : AV} {h : Heap} {c : Nat} (e : outC o = some (.mk v h c)) : o = some (.val v h c) := by
  unfold outC at e
  split at e
  · cases e; rfl
  · cases e

theorem block_at {η : Env} {σ : Sig} {h : Heap} {c n t : Nat} {cs : List AV} {w : World} (H : HR Tryz.prog σ η h c w) (hn : cells? h n = some (t, cs)) {l : Eng.Loc} (hl : σ n = some l) : ObjR Tryz.prog σ η w l (.cells t cs) := by
  obtain ⟨l', hl', ob⟩ := H.obj n _ (cells?_iff.1 hn)
  rw [hl] at hl'; cases hl'; exact ob

theorem row_in {η : Env} {σ : Sig} {l : Eng.Loc} {cs r : List AV} {o k : Nat} {C : Array Value} {us : List Value} (h3 : concs σ η cs = some us) (h4 : allOne us = true) (h5 : ∀ i v, us[i]? = some v → C[l.off + i]? = some v) (hr : row? cs o k = some r) :
    ∃ rs, concs σ η r = some rs ∧ allOne rs = true ∧ rs.length = k ∧ ∀ j v, rs[j]? = some v → C[l.off + o + j]? = some v := by
  obtain ⟨k1, k2, k3⟩ := concs_row h3 hr
  have hlen : ((us.drop o).take k).length = k := by rw [concs_length k1]; exact k2
  refine ⟨_, k1, allOne_iff.2 fun v hv => allOne_iff.1 h4 v (List.mem_of_mem_drop (List.mem_of_mem_take hv)), hlen, fun i v hv => ?_⟩
  rw [List.getElem?_take] at hv
  split at hv
  · rw [List.getElem?_drop] at hv
    have := h5 _ _ hv
    rwa [← Nat.add_assoc] at this
  · cases hv

theorem ins_ok {η : Env} {args : List AV} {h : Heap} {c : Nat} {v : AV} {h' : Heap} {c' : Nat} (he : insS args h c = some (.mk v h' c')) {σ : Sig} {w : World} {avs : List Value} (H : HR Tryz.prog σ η h c w) (ha : concs σ η args = some avs) : Calls Tryz.prog 387 avs.toArray w (Done Tryz.prog η σ h c w v h' c') := by
  unfold insS at he
  split at he
  rotate_left
  · cases he
  rename_i s i n' o' cp fl'
  obtain ⟨sv, r1, hs, hr1, rfl⟩ := concs_cons.1 ha
  obtain ⟨iv, r2, hiv, hr2, rfl⟩ := concs_cons.1 hr1
  obtain ⟨xv, r3, hx, hr3, rfl⟩ := concs_cons.1 hr2
  simp only [concs, Option.some.injEq] at hr3
  subst hr3
  rw [conc_int] at hiv
  subst hiv
  obtain ⟨l', hl', rfl⟩ := conc_slice.1 hx
  split at he
  · -- nil
    rw [conc_nils] at hs
    subst hs
    cases hi : Nat.beq i 0 with
    | false => simp [hi] at he
    | true =>
    simp only [hi, cond_true] at he
    have hi := Nat.eq_of_beq_eq_true hi
    subst hi
    have hap := aAppend_ok («as» := #[342, 192]) (vs := #[.slice none 0 0, .slice (some ⟨l'.blk, l'.off + o', none⟩) 1 (cp + (if fl' then l'.slack else 0))]) (ty := 342) (outC_some he) H (conc_nils.2 rfl) hx rfl rfl rfl rfl
    obtain ⟨u, σ', w', q1, q2, q3⟩ := hap
    refine Calls.mono (insert_nil _ _ _ u w w' q3) ?_
    rintro e w2 ⟨rfl, rfl⟩
    exact ⟨u, σ', rfl, q1, q2⟩
  · rename_i n o len cap fl
    cases h0 : (Nat.ble (len + 1) appendMax && Nat.ble len cap) with
    | false => simp [h0] at he
    | true =>
    simp only [h0, cond_true] at he
    rw [Bool.and_eq_true] at h0
    have hlen := Nat.le_of_ble_eq_true h0.1
    have hcap := Nat.le_of_ble_eq_true h0.2
    obtain ⟨l, hl, rfl⟩ := conc_slice.1 hs
    cases hi : Nat.beq i len with
    | true =>
      simp only [hi, cond_true] at he
      have hi := Nat.eq_of_beq_eq_true hi
      subst hi
      have hap := aAppend_ok («as» := #[342, 192]) (vs := #[.slice (some ⟨l.blk, l.off + o, none⟩) i (cap + (if fl then l.slack else 0)), .slice (some ⟨l'.blk, l'.off + o', none⟩) 1 (cp + (if fl' then l'.slack else 0))]) (ty := 342) (outC_some he) H hs hx rfl rfl rfl rfl
      obtain ⟨u, σ', w', q1, q2, q3⟩ := hap
      refine Calls.mono (insert_end _ _ _ _ _ _ _ u w w' q3) ?_
      rintro e w2 ⟨rfl, rfl⟩
      exact ⟨u, σ', rfl, q1, q2⟩
    | false =>
      simp only [hi, cond_false] at he
      cases h1 : (Nat.ble (i + 1) len && fl && !Nat.beq n n' && Nat.beq (Nat.mod o 3) 0) with
      | false => simp [h1] at he
      | true =>
      simp only [h1, cond_true, Option.bind_eq_some_iff] at he
      rw [Bool.and_eq_true, Bool.and_eq_true, Bool.and_eq_true, Bool.not_eq_true'] at h1
      have hil := Nat.le_of_ble_eq_true h1.1.1.1
      have hfl := h1.1.1.2
      subst hfl
      have hnn : n ≠ n' := fun e => by subst e; simp at h1
      have hom : o % 3 = 0 := Nat.eq_of_beq_eq_true h1.2
      obtain ⟨⟨t, cs⟩, hc, r, hr, ⟨t', cs'⟩, hc', vs, hvs, he⟩ := he
      cases h2 : (Nat.beq t 250 && Nat.beq t' 250 && Nat.beq (o + cap * 3) cs.length) with
      | false => simp [h2] at he
      | true =>
      simp only [h2, cond_true] at he
      rw [Bool.and_eq_true, Bool.and_eq_true] at h2
      have ht := Nat.eq_of_beq_eq_true h2.1.1
      have ht' := Nat.eq_of_beq_eq_true h2.1.2
      subst ht
      have hcl := Nat.eq_of_beq_eq_true h2.2
      have he := outC_some he
      obtain ⟨hb, he⟩ := putObj_ok he
      obtain ⟨C, fr, us, k1, k2, k3, k4, k5, k6, k7⟩ := block_at H hc hl
      obtain ⟨D, frD, us', m1, m2, m3, m4, m5, m6, m7⟩ := block_at H hc' hl'
      obtain ⟨RS, r1, r2, r3, r4⟩ := row_in k3 k4 k5 hr
      obtain ⟨VS, v1, v2, v3, v4⟩ := row_in m3 m4 m5 hvs
      have hus : us.length = o + cap * 3 := by rw [concs_length k3]; exact hcl.symm
      have hc133 : Tryz.prog.cellsOf 250 = 3 := by kernel_rfl
      rw [hc133] at k6 k7
      have hnew : concs σ η (r.take (i * 3) ++ vs ++ r.drop (i * 3)) = some (RS.take (i * 3) ++ VS ++ RS.drop (i * 3)) := concs_append (concs_append (concs_take _ r1) v1) (concs_drop _ r1)
      have hnew1 : allOne (RS.take (i * 3) ++ VS ++ RS.drop (i * 3)) = true := allOne_append.2 ⟨allOne_append.2 ⟨allOne_iff.2 fun v hv => allOne_iff.1 r2 v (List.mem_of_mem_take hv), v2⟩, allOne_iff.2 fun v hv => allOne_iff.1 r2 v (List.mem_of_mem_drop hv)⟩
      have hnewl : (RS.take (i * 3) ++ VS ++ RS.drop (i * 3)).length = (len + 1) * 3 := by simp only [List.length_append, List.length_take, List.length_drop, r3, v3]; omega
      simp only [if_true]
      by_cases hroom : len + 1 ≤ cap + l.slack
      · -- in place
        have hfe : w.frozen? ⟨l'.blk, D.size, none⟩ = false := by
          simp only [World.frozen?, m1]
          have hD : D.size < lim Tryz.prog t' D.size := by rw [ht']; unfold lim; rw [show isU8 Tryz.prog 250 = false by kernel_rfl]; simp
          simpa using m2 D.size hD
        refine Calls.mono (insert_shift l.blk (l.off + o) len (cap + l.slack) i l'.blk (l'.off + o') _ C D 250 t' fr frD RS VS w k1 (fun j hj => k2 j (Nat.lt_of_lt_of_le hj lim_le)) m1 (fun j hj => m2 j (Nat.lt_of_lt_of_le hj lim_le)) hfe (fun e => hnn (H.inj n n' l l' (by rw [cells?_iff.1 hc]; rfl) (by rw [cells?_iff.1 hc']; rfl) hl hl' e.symm)) (by omega) hroom (by omega) (by omega) r3 r4 r2 v3 v4 v2) ?_
        rintro e w' ⟨rfl, rfl⟩
        unfold newCells fCells at he
        rw [fAVs_eq] at he
        obtain ⟨hcb, he⟩ := putObj_ok he
        rw [fNat_eq] at he
        cases he
        have hlt : l.blk < w.heap.size := by
          rcases Nat.lt_or_ge l.blk w.heap.size with h | h
          · exact h
          · rw [Array.getElem?_eq_none h] at k1; cases k1
        have hd : (RS.drop (i * 3)).length = (len - i) * 3 := by rw [List.length_drop, r3]; omega
        have ht : (RS.take (i * 3)).length = i * 3 := by rw [List.length_take, r3]; omega
        have s1 := layL_length (L := C.toList) (V := RS.drop (i * 3)) (o := l.off + o + (i + 1) * 3) (by rw [hd]; simp only [Array.length_toList]; omega)
        have s2 := layL_length (L := layL C.toList (l.off + o + (i + 1) * 3) (RS.drop (i * 3))) (V := VS) (o := l.off + o + i * 3) (by rw [s1, v3]; simp only [Array.length_toList]; omega)
        have wt := move_ok (P := Tryz.prog) (l' := ⟨l.blk, l.off + o, cap + l.slack - (len + 1)⟩) (o := .cells 250 (r.take (i * 3) ++ vs ++ r.drop (i * 3))) (O := .cells ⟨layL (layL C.toList (l.off + o + (i + 1) * 3) (RS.drop (i * 3))) (l.off + o + i * 3) VS⟩ 250 fr) H hb hcb hl (by rw [cells?_iff.1 hc]; rfl) rfl rfl
          ⟨⟨layL (layL C.toList (l.off + o + (i + 1) * 3) (RS.drop (i * 3))) (l.off + o + i * 3) VS⟩, fr, RS.take (i * 3) ++ VS ++ RS.drop (i * 3), by simp only [Array.getElem?_setIfInBounds_self, if_pos hlt], fun j hj => k2 j (by
              have : j < lim Tryz.prog 250 (layL (layL C.toList (l.off + o + (i + 1) * 3) (RS.drop (i * 3))) (l.off + o + i * 3) VS).length := by simpa using hj
              rw [s2, s1] at this; simpa using this), concs_ext (ext_upd (H.new c (Nat.le_refl _))) hnew, hnew1, fun j y hj => ?_, ?_⟩
        · refine ⟨_, _, rfl, conc_slice.2 ⟨_, upd_same _ _ _, ?_⟩, wt.heap rfl rfl rfl rfl⟩
          simp only [if_true]
          rw [show len + 1 + (cap + l.slack - (len + 1)) = cap + l.slack by omega]
          rfl
        · simp only [List.getElem?_toArray]
          rw [layL_get (by rw [s1, v3]; simp only [Array.length_toList]; omega), layL_get (by rw [hd]; simp only [Array.length_toList]; omega)]
          rcases Nat.lt_or_ge j ((i + 1) * 3) with q | q
          · rw [List.getElem?_append_left (by rw [List.length_append, ht, v3]; omega)] at hj
            rcases Nat.lt_or_ge j (i * 3) with q2 | q2
            · rw [List.getElem?_append_left (by rw [ht]; omega)] at hj
              rw [if_pos (by omega), if_pos (by omega)]
              rw [List.getElem?_take] at hj
              rw [if_pos q2] at hj
              simpa using r4 j y hj
            · rw [List.getElem?_append_right (by rw [ht]; omega), ht] at hj
              rw [if_neg (by omega), if_pos (by omega), ← hj, show l.off + o + j - (l.off + o + i * 3) = j - i * 3 by omega]
          · have hjl : j < (RS.take (i * 3) ++ VS ++ RS.drop (i * 3)).length := by
              rcases Nat.lt_or_ge j (RS.take (i * 3) ++ VS ++ RS.drop (i * 3)).length with h | h
              · exact h
              · rw [List.getElem?_eq_none h] at hj; cases hj
            rw [hnewl] at hjl
            rw [List.getElem?_append_right (by rw [List.length_append, ht, v3]; omega), List.length_append, ht, v3] at hj
            rw [if_neg (by omega), if_neg (by omega), if_neg (by omega), if_pos (by rw [hd]; omega), ← hj, show l.off + o + j - (l.off + o + (i + 1) * 3) = j - (i * 3 + 3) by omega]
        · simp only [List.size_toArray]
          rw [s2, s1, hnewl, hc133]
          simp only [Array.length_toList]
          exact ⟨by omega, by rw [Nat.add_mod, k7, hom]⟩
      · -- a new row
        refine Calls.mono (insert_grow l.blk (l.off + o) len (cap + l.slack) i l'.blk (l'.off + o') _ C D 250 t' fr frD RS VS w k1 m1 (by omega) (by omega) (by omega) (by omega) r3 r4 r2 v3 v4 v2) ?_
        rintro e w' ⟨k, A, rfl, g1, g2, g3, g4, g5, g6⟩
        have wk := kill_ok H hb
        have := newCells_ok (sl := k) (w' := w') (C := A) (fr := (0, 0)) he wk.rel hnew hnew1 g6 (by rw [hc133, hnewl]; exact g5) (fun j _ q => by omega) g1 g2 g3 g4
        obtain ⟨rfl, wt⟩ := this
        exact ⟨_, _, rfl, conc_slice.2 ⟨_, upd_same _ _ _, rfl⟩, wk.trans wt⟩
  · cases he

end Go.Proofs.YtelhdbkkigehgaaGreatDoor

/-
  DERIVED: THE SHELF's CONTRACTS AT THIS DUMP, IN PLAIN WORDS (tools/lay-plain.mjs out of 'YtelhdbkkigehgaaGreatDoorShelf.lean', which tools/lay-shelf.mjs wrote): THE SAME DECLARATIONS UNDER THE SAME NAMES: 'import', 'namespace', 'open', 'def', 'theorem' AND NOTHING ELSE: no command of the shelf's: FOR A HAND-IN. Each laying: the table of numbers ('.._ren') and one theorem, a field a fact of the dump's own or the kernel's comparison; each contract: ONE APPLICATION.
-/
namespace Go.Proofs
open Go.Shelf
def Tryz.l17_ren : Go.Shelf.Ren := ⟨fun | 17 => 317 | 15 => 432 | 20 => 507 | n => n, fun | 9 => 9 | 23 => 415 | 4 => 4 | 3 => 3 | 0 => 0 | 21 => 21 | n => n, fun | n => n⟩
theorem Tryz.l17 : Go.Proofs.LaysGw.n17 Tryz.prog Tryz.l17_ren := {
  mixed := by kernel_rfl
  f15 := Tryz.func432.trans (congrArg some (by kernel_rfl))
  f17 := Tryz.func317.trans (congrArg some (by kernel_rfl))
  f20 := Tryz.func507.trans (congrArg some (by kernel_rfl))
  t0 := Tryz.underlying0
  a0 := Tryz.isAgg0
  z0 := Tryz.sizeOf0
  v0 := Tryz.zeroValue0
  i0 := by kernel_rfl
  t3 := Tryz.underlying3
  a3 := Tryz.isAgg3
  z3 := Tryz.sizeOf3
  v3 := Tryz.zeroValue3
  i3 := by kernel_rfl
  t4 := Tryz.underlying4
  a4 := Tryz.isAgg4
  z4 := Tryz.sizeOf4
  v4 := Tryz.zeroValue4
  i4 := by kernel_rfl
  t9 := Tryz.underlying9
  a9 := Tryz.isAgg9
  z9 := Tryz.sizeOf9
  v9 := Tryz.zeroValue9
  i9 := by kernel_rfl
  t21 := Tryz.underlying21
  a21 := Tryz.isAgg21
  z21 := Tryz.sizeOf21
  v21 := Tryz.zeroValue21
  i21 := by kernel_rfl
  t23 := Tryz.underlying415
  a23 := Tryz.isAgg415
  z23 := Tryz.sizeOf415
  v23 := Tryz.zeroValue415
  i23 := by kernel_rfl }
def Tryz.keys129_ren : Go.Shelf.Ren := ⟨fun | 7 => 392 | 10 => 491 | n => n, fun | 23 => 274 | 26 => 9 | 3 => 372 | 28 => 75 | 0 => 0 | 27 => 74 | 33 => 112 | 4 => 4 | n => n, fun | n => n⟩
theorem Tryz.keys129 : Go.Proofs.SlLaysZ.n7 Tryz.prog Tryz.keys129_ren := {
  mixed := by kernel_rfl
  f7 := ⟨Tryz.f392.name, by decide, Tryz.func392.trans (congrArg some (by kernel_rfl))⟩
  f10 := ⟨Tryz.f491.name, by decide, Tryz.func491.trans (congrArg some (by kernel_rfl))⟩
  t0 := Tryz.underlying0
  a0 := Tryz.isAgg0
  z0 := Tryz.sizeOf0
  v0 := Tryz.zeroValue0
  t4 := Tryz.underlying4
  a4 := Tryz.isAgg4
  z4 := Tryz.sizeOf4
  v4 := Tryz.zeroValue4
  t23 := Tryz.underlying274
  a23 := Tryz.isAgg274
  z23 := Tryz.sizeOf274
  v23 := Tryz.zeroValue274
  t26 := Tryz.underlying9
  a26 := Tryz.isAgg9
  z26 := Tryz.sizeOf9
  v26 := Tryz.zeroValue9
  t27 := Tryz.underlying74
  a27 := Tryz.isAgg74
  z27 := Tryz.sizeOf74
  v27 := Tryz.zeroValue74
  t28 := Tryz.underlying75
  a28 := Tryz.isAgg75
  z28 := Tryz.sizeOf75
  v28 := Tryz.zeroValue75
  t33 := Tryz.underlying112
  a33 := Tryz.isAgg112
  z33 := Tryz.sizeOf112
  v33 := Tryz.zeroValue112 }
def Tryz.sorted128_ren : Go.Shelf.Ren := ⟨fun | 6 => 391 | 8 => 489 | 9 => 490 | 11 => 548 | 13 => 323 | 12 => 549 | 23 => 445 | 24 => 399 | 14 => 565 | 15 => 566 | 16 => 567 | 17 => 568 | 18 => 569 | 19 => 570 | 20 => 571 | 21 => 572 | 22 => 573 | 25 => 577 | 26 => 510 | 27 => 511 | 28 => 578 | 29 => 579 | 30 => 562 | 31 => 581 | n => n, fun | 26 => 9 | 28 => 75 | 24 => 50 | 0 => 0 | 3 => 3 | 37 => 267 | 48 => 385 | 50 => 376 | 4 => 4 | 40 => 530 | 39 => 529 | 45 => 83 | 5 => 5 | 9 => 9 | 51 => 593 | 55 => 334 | 57 => 636 | 58 => 343 | 33 => 112 | n => n, fun | n => n⟩
theorem Tryz.sorted128 : Go.Proofs.SlLaysZ.n6 Tryz.prog Tryz.sorted128_ren := {
  mixed := by kernel_rfl
  f6 := ⟨Tryz.f391.name, by decide, Tryz.func391.trans (congrArg some (by kernel_rfl))⟩
  f8 := ⟨Tryz.f489.name, by decide, Tryz.func489.trans (congrArg some (by kernel_rfl))⟩
  f11 := ⟨Tryz.f548.name, by decide, Tryz.func548.trans (congrArg some (by kernel_rfl))⟩
  t0 := Tryz.underlying0
  a0 := Tryz.isAgg0
  z0 := Tryz.sizeOf0
  v0 := Tryz.zeroValue0
  t24 := Tryz.underlying50
  a24 := Tryz.isAgg50
  z24 := Tryz.sizeOf50
  v24 := Tryz.zeroValue50
  t26 := Tryz.underlying9
  a26 := Tryz.isAgg9
  z26 := Tryz.sizeOf9
  v26 := Tryz.zeroValue9
  t28 := Tryz.underlying75
  a28 := Tryz.isAgg75
  z28 := Tryz.sizeOf75
  v28 := Tryz.zeroValue75
  i26 := by kernel_rfl }
def Tryz.sort212_ren : Go.Shelf.Ren := ⟨fun | 6 => 490 | 8 => 323 | 9 => 549 | 19 => 445 | 20 => 399 | 21 => 565 | 22 => 566 | 23 => 567 | 24 => 568 | 25 => 569 | 26 => 570 | 27 => 571 | 28 => 572 | 29 => 573 | 36 => 577 | 31 => 510 | 32 => 511 | 37 => 578 | 38 => 579 | 39 => 562 | 41 => 581 | n => n, fun | 27 => 50 | 29 => 9 | 3 => 3 | 32 => 267 | 26 => 50 | 0 => 0 | 44 => 385 | 46 => 376 | 4 => 4 | 36 => 530 | 35 => 529 | 41 => 83 | 5 => 5 | 9 => 9 | 53 => 593 | 57 => 334 | 63 => 636 | 64 => 343 | n => n, fun | n => n⟩
theorem Tryz.sort212 : Go.Proofs.SlLaysM.n6 Tryz.prog Tryz.sort212_ren := {
  mixed := by kernel_rfl
  f6 := ⟨Tryz.f490.name, by decide, Tryz.func490.trans (congrArg some (by kernel_rfl))⟩
  f8 := Tryz.func323.trans (congrArg some (by kernel_rfl))
  f9 := ⟨Tryz.f549.name, by decide, Tryz.func549.trans (congrArg some (by kernel_rfl))⟩
  f19 := Tryz.func445.trans (congrArg some (by kernel_rfl))
  f20 := Tryz.func399.trans (congrArg some (by kernel_rfl))
  f21 := ⟨Tryz.f565.name, by decide, Tryz.func565.trans (congrArg some (by kernel_rfl))⟩
  f22 := ⟨Tryz.f566.name, by decide, Tryz.func566.trans (congrArg some (by kernel_rfl))⟩
  f23 := ⟨Tryz.f567.name, by decide, Tryz.func567.trans (congrArg some (by kernel_rfl))⟩
  f24 := ⟨Tryz.f568.name, by decide, Tryz.func568.trans (congrArg some (by kernel_rfl))⟩
  f25 := ⟨Tryz.f569.name, by decide, Tryz.func569.trans (congrArg some (by kernel_rfl))⟩
  f26 := ⟨Tryz.f570.name, by decide, Tryz.func570.trans (congrArg some (by kernel_rfl))⟩
  f27 := ⟨Tryz.f571.name, by decide, Tryz.func571.trans (congrArg some (by kernel_rfl))⟩
  f28 := ⟨Tryz.f572.name, by decide, Tryz.func572.trans (congrArg some (by kernel_rfl))⟩
  f29 := ⟨Tryz.f573.name, by decide, Tryz.func573.trans (congrArg some (by kernel_rfl))⟩
  f31 := Tryz.func510.trans (congrArg some (by kernel_rfl))
  f32 := Tryz.func511.trans (congrArg some (by kernel_rfl))
  f36 := ⟨Tryz.f577.name, by decide, Tryz.func577.trans (congrArg some (by kernel_rfl))⟩
  f37 := ⟨Tryz.f578.name, by decide, Tryz.func578.trans (congrArg some (by kernel_rfl))⟩
  f38 := ⟨Tryz.f579.name, by decide, Tryz.func579.trans (congrArg some (by kernel_rfl))⟩
  f39 := ⟨Tryz.f562.name, by decide, Tryz.func562.trans (congrArg some (by kernel_rfl))⟩
  f41 := ⟨Tryz.f581.name, by decide, Tryz.func581.trans (congrArg some (by kernel_rfl))⟩
  t0 := Tryz.underlying0
  a0 := Tryz.isAgg0
  z0 := Tryz.sizeOf0
  v0 := Tryz.zeroValue0
  t3 := Tryz.underlying3
  a3 := Tryz.isAgg3
  z3 := Tryz.sizeOf3
  v3 := Tryz.zeroValue3
  t4 := Tryz.underlying4
  a4 := Tryz.isAgg4
  z4 := Tryz.sizeOf4
  v4 := Tryz.zeroValue4
  t5 := Tryz.underlying5
  a5 := Tryz.isAgg5
  z5 := Tryz.sizeOf5
  v5 := Tryz.zeroValue5
  t9 := Tryz.underlying9
  a9 := Tryz.isAgg9
  z9 := Tryz.sizeOf9
  v9 := Tryz.zeroValue9
  t26 := Tryz.underlying50
  a26 := Tryz.isAgg50
  z26 := Tryz.sizeOf50
  v26 := Tryz.zeroValue50
  t27 := Tryz.underlying50
  a27 := Tryz.isAgg50
  z27 := Tryz.sizeOf50
  v27 := Tryz.zeroValue50
  t29 := Tryz.underlying9
  a29 := Tryz.isAgg9
  z29 := Tryz.sizeOf9
  v29 := Tryz.zeroValue9
  t32 := Tryz.underlying267
  a32 := Tryz.isAgg267
  z32 := Tryz.sizeOf267
  v32 := Tryz.zeroValue267
  t35 := Tryz.underlying529
  a35 := Tryz.isAgg529
  z35 := Tryz.sizeOf529
  v35 := Tryz.zeroValue529
  t36 := Tryz.underlying530
  a36 := Tryz.isAgg530
  z36 := Tryz.sizeOf530
  v36 := Tryz.zeroValue530
  t41 := Tryz.underlying83
  a41 := Tryz.isAgg83
  z41 := Tryz.sizeOf83
  v41 := Tryz.zeroValue83
  t44 := Tryz.underlying385
  a44 := Tryz.isAgg385
  z44 := Tryz.sizeOf385
  v44 := Tryz.zeroValue385
  t46 := Tryz.underlying376
  a46 := Tryz.isAgg376
  z46 := Tryz.sizeOf376
  v46 := Tryz.zeroValue376
  t53 := Tryz.underlying593
  a53 := Tryz.isAgg593
  z53 := Tryz.sizeOf593
  v53 := Tryz.zeroValue593
  t57 := Tryz.underlying334
  a57 := Tryz.isAgg334
  z57 := Tryz.sizeOf334
  v57 := Tryz.zeroValue334
  t63 := Tryz.underlying636
  a63 := Tryz.isAgg636
  z63 := Tryz.sizeOf636
  v63 := Tryz.zeroValue636
  t64 := Tryz.underlying343
  a64 := Tryz.isAgg343
  z64 := Tryz.sizeOf343
  v64 := Tryz.zeroValue343 }
end Go.Proofs

/- spans.Name of any string, by the library's ContainsFunc. -/
namespace Go.Proofs.YtelhdbkkigehgaaGreatDoor
open Go.RowKit Go.Shelf Go.Lib

theorem nil_iff {x : ByteArray} : x.toList = [] ↔ x.size = 0 := by
  have hs : x.toList.length = x.size := by rw [ByteArray.toList_eq]; exact Array.length_toList
  rw [← hs]; exact List.length_eq_zero_iff.symm
def oddP (c : Nat) : Bool := decide (c ≤ 32) || decide (126 < c)
theorem odd_all (c : Nat) (w : World) : Calls Tryz.prog 316 #[.int .i32 (c : Int)] w fun e w' => e = .returned (.bool (oddP c)) ∧ ∃ q, w' = w.drewN q := by
  unfold oddP
  by_cases h1 : (c : Int) ≤ 32
  · go_enter Tryz.func316, Tryz.ntmps316
    go_wp2
    go_ret
    have e : decide (c ≤ 32) = true := by simp; omega
    exact ⟨by rw [e]; rfl, 0, rfl⟩
  · by_cases h2 : (126 : Int) < (c : Int)
    · go_enter Tryz.func316, Tryz.ntmps316
      go_wp2
      go_ret
      have e : decide (126 < c) = true := by simp; omega
      exact ⟨by rw [e, Bool.or_true]; rfl, 0, rfl⟩
    · go_enter Tryz.func316, Tryz.ntmps316
      go_wp2
      go_ret
      have e1 : decide (c ≤ 32) = false := by simp; omega
      have e2 : decide (126 < c) = false := by simp; omega
      exact ⟨by rw [e1, e2]; rfl, 0, rfl⟩
theorem contains_all (s : ByteArray) (w : World) : Calls Tryz.prog 317 #[.string s, .func (.func 316) #[] #[]] w fun e w' => e = .returned (.bool (decide (0 ≤ Lib.idxFunc oddP true s))) ∧ Kept (fun _ => False) w w' := by
  have h := Any.strings_ContainsFunc Tryz.l17 316 #[] (enters_of Tryz.func316 (by kernel_rfl) rfl) oddP s w (fun W x _ => odd_all x W)
  change Calls Tryz.prog 317 _ _ _ at h
  exact h.mono fun e w' ⟨he, hb⟩ => ⟨he, hb.os, hb.tape, hb.output, hb.size, fun k hk _ => hb.block k hk⟩
def nameB (s : ByteArray) : Bool := decide (s.size ≠ 0) && decide (s.size ≤ 12) && !decide (0 ≤ Lib.idxFunc oddP true s)
set_option maxRecDepth 100000 in
theorem name_all (s : ByteArray) (hs : s.size ≤ 9223372036854775807) (w : World) : Calls Tryz.prog 205 #[.string s] w fun e w' => e = .returned (.bool (nameB s)) ∧ Kept (fun _ => False) w w' := by
  have C := Lib.hid (contains_all s)
  obtain ⟨B, hB⟩ : ∃ B, decide (0 ≤ Lib.idxFunc oddP true s) = B := ⟨_, rfl⟩
  rw [hB] at C
  unfold nameB
  rw [hB]
  clear hB
  by_cases h0 : s.size = 0
  · have e2 : (s.toList == ([] : List UInt8)) = true := by
      have : s.toList = [] := nil_iff.2 h0
      simpa using this
    have e3 : decide (s.size ≠ 0) = false := by simp [h0]
    rw [e3]
    clear h0 e3
    go_enter Tryz.func205, Tryz.ntmps205
    go_wp2
    go_ret
    exact ⟨rfl, Kept.refl _ w⟩
  · have e2 : (s.toList == ([] : List UInt8)) = false := by
      have : ¬ s.toList = [] := fun e => h0 (nil_iff.1 e)
      simpa using this
    have e3 : decide (s.size ≠ 0) = true := by simp [h0]
    rw [e3]
    by_cases h1 : (s.size : Int) ≤ 12
    · have e4 : decide (s.size ≤ 12) = true := by simp; omega
      rw [e4]
      clear h0 e3 e4
      go_enter Tryz.func205, Tryz.ntmps205
      go_wp2_with (go_at_call 317; refine (C.out _).mono ?_; rintro e w4 ⟨rfl, k4⟩)
      go_ret
      exact ⟨by cases B <;> rfl, k4⟩
    · have e4 : decide (s.size ≤ 12) = false := by simp; omega
      rw [e4]
      clear h0 e3 e4
      go_enter Tryz.func205, Tryz.ntmps205
      go_wp2
      go_ret
      exact ⟨rfl, Kept.refl _ w⟩
end Go.Proofs.YtelhdbkkigehgaaGreatDoor

/- spans.Name, as a summary. -/
namespace Go.Proofs.YtelhdbkkigehgaaGreatDoor
open Go.RowKit Go.Lib Go.Eng

noncomputable section
def namS (args : List AV) : Option AV := match args with
  | [.str l] => bif Nat.ble l.length 1000000 then some (.bool (nameB (bs l))) else none
  | _ => none
end

theorem Kept.eng {S : Nat → Prop} {w w' : World} (h : Kept S w w') : Eng.Kept S w w' := ⟨h.os, h.tape, h.output, h.size, h.block⟩

theorem nam_ok {η : Env} {args : List AV} {v : AV} (he : namS args = some v) (σ : Sig) (avs : List Value) (w : World) (ha : concs σ η args = some avs) :
    Calls Tryz.prog 205 avs.toArray w (fun e w' => ∃ u, e = .returned u ∧ conc σ η v = some u ∧ Eng.Kept (fun _ => False) w w') := by
  unfold namS at he
  split at he
  rotate_left
  · cases he
  rename_i l
  obtain ⟨sv, r, hs, hr, rfl⟩ := concs_cons.1 ha
  simp only [concs, Option.some.injEq] at hr
  subst hr
  obtain ⟨_, rfl⟩ := conc_str.1 hs
  cases hl : Nat.ble l.length 1000000 with
  | false => simp [hl] at he
  | true =>
  simp only [hl, cond_true, Option.some.injEq] at he
  subst he
  have hl := Nat.le_of_ble_eq_true hl
  refine Calls.mono (name_all (bs l) (by rw [bs_size]; omega) w) ?_
  rintro e w' ⟨rfl, k⟩
  exact ⟨_, rfl, rfl, k.eng⟩

theorem nam_t : nameB (bs [104, 105, 45, 52]) = true := by decide +kernel
end Go.Proofs.YtelhdbkkigehgaaGreatDoor

/- slices.Sorted(maps.Keys(m)) at this program: the library's proved contracts, applied (printed by the kit's lay-iter). -/
namespace Go.Proofs
open Go.RowKit Go.Maps Go.Sort Go.Shelf

/-- slices.Sort's two contracts at this dump, at the fence that asks nothing. -/
theorem Tryz.sorts128 (m : Nat) : AnyZ.SortsIn Tryz.prog Tryz.sorted128_ren Fence.wide m :=
  ⟨fun blk off cap ss W hH hblk hsz => callsIn_wide.2 (AnyM.slices_Sort_string Tryz.sort212 blk off cap ss W hH hblk hsz),
   fun p cap W => callsIn_wide.2 (AnyM.slices_Sort_string_none Tryz.sort212 p cap W)⟩

/-- **maps.Keys[map[string]spoor/disk.file,string,spoor/disk.file], at whatever map, the nil one too:** a function value over ONE NEW BLOCK, which holds the map. -/
theorem Tryz.maps_Keys_129 (mb : Option Nat) (W : World) : CallsIn Fence.wide 5 Tryz.prog 392 #[.map mb] W fun e w' => e = .returned (.func (.func 491) #[] #[.pointer (some ⟨W.heap.size, 0, none⟩)]) ∧ w' = W.alloc (.cells #[.map mb] 274) :=
  AnyZ.keys_in Tryz.keys129 Fence.wide 5 trivial rfl mb W

set_option maxRecDepth 100000 in
set_option maxHeartbeats 1000000 in
/-- **slices.Sorted[string] AT WHAT maps.Keys[map[string]spoor/disk.file,string,spoor/disk.file] HANDED BACK FOR A MAP THAT IS NOT nil** ('w': the world AHEAD of maps.Keys' call): A NEW SLICE THAT HOLDS THE MAP's KEYS, SORTED; nil just where it has none; nothing that lay before has turned. -/
theorem Tryz.slices_Sorted_keys_128_129 {H : Type} (b nn : Nat) (D0 : DataW H) (R : Value → Option (DataW H × List MemPlace)) (w : World) (hown : w.ownsMap Tryz.prog 9 R b nn D0) (hmax : Maps.size D0 ≤ maxLen) (hbytes : Maps.size D0 * 16 ≤ 140737488355328) :
    CallsIn Fence.wide 5 Tryz.prog 391 #[.func (.func 491) #[] #[.pointer (some ⟨w.heap.size, 0, none⟩)]] (w.alloc (.cells #[.map (some b)] 274)) fun e w' => ∃ (v : Value) (ss : List (List UInt8)), e = .returned v ∧ ss.Perm (strKeys D0) ∧
      w'.ownsRow (w.alloc (.cells #[.map (some b)] 274)).heap.size 9 1 v ss.length ((ss.mergeSort (fun x y => decide (x ≤ y))).map encStr) ∧ (v = .slice none 0 0 ↔ ss = []) ∧ Below (w.alloc (.cells #[.map (some b)] 274)).heap.size (w.alloc (.cells #[.map (some b)] 274)) w' := by
  have hbl := hown.lt
  have hseq : SeqGives Fence.wide 2 Tryz.prog 491 #[.pointer (some ⟨w.heap.size, 0, none⟩)] encStr (fun ss => ss.Perm (strKeys D0)) (Maps.size D0) (w.alloc (.cells #[.map (some b)] 274)) :=
    AnyZ.keys_gives (ρ := Tryz.keys129_ren) { Tryz.keys129 with } Fence.wide _ trivial rfl (by omega) w.heap.size b nn D0 _ (by simp) (by simp) (by
      obtain ⟨es, clock, hb, Ft, hs, hD⟩ := hown
      exact ⟨es, clock, (Below.heap_alloc _ _ b hbl).trans hb, Ft, hs, hD⟩)
  exact AnyZ.sorted_in Tryz.sorted128 Fence.wide 5 trivial trivial trivial trivial rfl (by omega) (Tryz.sorts128 _) (enters_of Tryz.func490 (by kernel_rfl) rfl) 491 #[.pointer (some ⟨w.heap.size, 0, none⟩)] trivial (enters_of Tryz.func491 (by kernel_rfl) rfl) _ _ hmax hbytes _ hseq

set_option maxRecDepth 100000 in
set_option maxHeartbeats 1000000 in
/-- **.. AND FOR THE nil MAP: nil.** -/
theorem Tryz.slices_Sorted_keys_nil_128_129 (w : World) :
    CallsIn Fence.wide 5 Tryz.prog 391 #[.func (.func 491) #[] #[.pointer (some ⟨w.heap.size, 0, none⟩)]] (w.alloc (.cells #[.map none] 274)) fun e w' => ∃ (v : Value) (ss : List (List UInt8)), e = .returned v ∧ ss = [] ∧
      w'.ownsRow (w.alloc (.cells #[.map none] 274)).heap.size 9 1 v ss.length ((ss.mergeSort (fun x y => decide (x ≤ y))).map encStr) ∧ (v = .slice none 0 0 ↔ ss = []) ∧ Below (w.alloc (.cells #[.map none] 274)).heap.size (w.alloc (.cells #[.map none] 274)) w' := by
  have hseq : SeqGives Fence.wide 2 Tryz.prog 491 #[.pointer (some ⟨w.heap.size, 0, none⟩)] encStr (fun ss : List (List UInt8) => ss = []) 0 (w.alloc (.cells #[.map none] 274)) :=
    AnyZ.keys_gives_nil (ρ := Tryz.keys129_ren) { Tryz.keys129 with } Fence.wide _ trivial rfl w.heap.size _ (by simp) (by simp)
  exact AnyZ.sorted_in Tryz.sorted128 Fence.wide 5 trivial trivial trivial trivial rfl (by omega) (Tryz.sorts128 _) (enters_of Tryz.func490 (by kernel_rfl) rfl) 491 #[.pointer (some ⟨w.heap.size, 0, none⟩)] trivial (enters_of Tryz.func491 (by kernel_rfl) rfl) _ 0 (Nat.zero_le _) (by omega) _ hseq

end Go.Proofs

/- (*disk.Disk).Names, by the library's contracts. -/
namespace Go.Proofs.YtelhdbkkigehgaaGreatDoor
open Go.RowKit Go.Maps Go.Sort Go.Shelf

set_option maxHeartbeats 1000000 in
set_option maxRecDepth 100000 in
theorem is_at (p o b : Nat) (w : World) (h : w.cell? ⟨p, o + 3, none⟩ = some (.map (some b))) :
    Calls Tryz.prog 354 #[.pointer (some ⟨p, o, none⟩)] w fun e w' => e = .returned (.bool true) ∧ w = w' := by
  have q68 : ∀ (w : World) (r : Option Nat), (binOp .neq 274 (.map r) (.map none)).run Tryz.prog w = .ok (.bool (!r.isNone)) w := fun w r => run_neq_map_nil w _ _ _ r Tryz.underlying274
  go_enter Tryz.func354, Tryz.ntmps354
  go_wp2
  go_ret
  exact ⟨rfl, rfl⟩

set_option maxHeartbeats 1000000 in
set_option maxRecDepth 100000 in
theorem names_at {H : Type} (p o b nn : Nat) (D0 : DataW H) (R : Value → Option (DataW H × List MemPlace)) (w : World) (hc : w.cell? ⟨p, o + 3, none⟩ = some (.map (some b))) (hown : w.ownsMap Tryz.prog 9 R b nn D0) (hmax : Maps.size D0 ≤ maxLen) (hbytes : Maps.size D0 * 16 ≤ 140737488355328) :
    Calls Tryz.prog 272 #[.pointer (some ⟨p, o, none⟩)] w fun e w' => ∃ (v : Value) (ss : List (List UInt8)), e = .returned v ∧ ss.Perm (strKeys D0) ∧
      w'.ownsRow w.heap.size 9 1 v ss.length ((ss.mergeSort (fun x y => decide (x ≤ y))).map encStr) ∧ (v = .slice none 0 0 ↔ ss = []) ∧ Below w.heap.size w w' := by
  refine (callsIn_wide (n := 6)).1 ?_
  have hfK : Fence.wide.fn 392 := trivial
  have hfS : Fence.wide.fn 391 := trivial
  have hfI : Fence.wide.fn 354 := trivial
  have q68 : ∀ (w : World) (r : Option Nat), (binOp .neq 274 (.map r) (.map none)).run Tryz.prog w = .ok (.bool (!r.isNone)) w := fun w r => run_neq_map_nil w _ _ _ r Tryz.underlying274
  refine callsIn_of_wp Tryz.func272 rfl trivial ?_ rfl
  simp only [Tryz.ntmps272, List.size_toArray, List.length_cons, List.length_nil, Nat.reduceAdd, Nat.reduceSub, Array.replicate_succ, Array.replicate_zero, List.push_toArray, List.append_toArray, List.nil_append, List.cons_append]
  gi_wp2_with (first
    | (gi_at_call 392; refine (Tryz.maps_Keys_129 _ _).mono ?_; rintro e w' ⟨rfl, rfl⟩)
    | (gi_at_call 391; refine (Tryz.slices_Sorted_keys_128_129 b nn D0 R w hown hmax hbytes).mono ?_; rintro e w' ⟨v, ss, rfl, hS, hrow, hnil, hb⟩)
    | (gi_at_call 354; refine (callsIn_wide.2 (is_at p o b _ hc)).mono ?_; rintro e w' ⟨rfl, rfl⟩))
  go_ret
  exact ⟨v, ss, rfl, hS, ownsRow_base_a hrow (by simp), hnil, ((Below.refl _ w).alloc (Nat.le_refl _) _).trans (hb.mono (by simp))⟩

set_option maxHeartbeats 1000000 in
set_option maxRecDepth 100000 in
theorem names_nilmap (p o : Nat) (w : World) (hc : w.cell? ⟨p, o + 3, none⟩ = some (.map none)) : Calls Tryz.prog 272 #[.pointer (some ⟨p, o, none⟩)] w fun e w' => e = .returned (.slice none 0 0) ∧ w' = w := by
  have q68 : ∀ (w : World) (r : Option Nat), (binOp .neq 274 (.map r) (.map none)).run Tryz.prog w = .ok (.bool (!r.isNone)) w := fun w r => run_neq_map_nil w _ _ _ r Tryz.underlying274
  go_enter Tryz.func272, Tryz.ntmps272
  go_wp2
  go_ret
  exact ⟨rfl, rfl⟩

set_option maxHeartbeats 1000000 in
set_option maxRecDepth 100000 in
theorem names_nil (w : World) : Calls Tryz.prog 272 #[.pointer none] w fun e w' => e = .returned (.slice none 0 0) ∧ w' = w := by
  go_enter Tryz.func272, Tryz.ntmps272
  go_wp2
  go_ret
  exact ⟨rfl, rfl⟩

end Go.Proofs.YtelhdbkkigehgaaGreatDoor

/- Rows of texts in order (plain Lean). -/
namespace Go.Proofs.YtelhdbkkigehgaaGreatDoor
open Go.Eng

def insU (x : List UInt8) : List (List UInt8) → List (List UInt8)
  | [] => [x]
  | y :: l => bif decide (x ≤ y) then x :: y :: l else y :: insU x l
def sortU : List (List UInt8) → List (List UInt8)
  | [] => []
  | x :: l => insU x (sortU l)

theorem le_tot (a b : List UInt8) : a ≤ b ∨ b ≤ a := List.le_total a b
theorem le_tr {a b c : List UInt8} (h : a ≤ b) (k : b ≤ c) : a ≤ c := List.le_trans h k
theorem le_anti {a b : List UInt8} (h : a ≤ b) (k : b ≤ a) : a = b := List.le_antisymm h k

theorem insU_perm (x : List UInt8) : ∀ l, (insU x l).Perm (x :: l)
  | [] => List.Perm.refl _
  | y :: l => by
    unfold insU
    cases decide (x ≤ y) with
    | true => exact List.Perm.refl _
    | false => exact ((insU_perm x l).cons y).trans (List.Perm.swap x y l)
theorem sortU_perm : ∀ l, (sortU l).Perm l
  | [] => List.Perm.refl _
  | x :: l => (insU_perm x _).trans ((sortU_perm l).cons x)
theorem insU_sorted (x : List UInt8) : ∀ l, l.Pairwise (· ≤ ·) → (insU x l).Pairwise (· ≤ ·)
  | [], _ => by simp [insU]
  | y :: l, h => by
    unfold insU
    rw [List.pairwise_cons] at h
    by_cases q : x ≤ y
    · simp only [q, decide_true, cond_true]
      refine List.pairwise_cons.2 ⟨fun z hz => ?_, List.pairwise_cons.2 h⟩
      rcases List.mem_cons.1 hz with rfl | hz
      · exact q
      · exact le_tr q (h.1 z hz)
    · simp only [q, decide_false, cond_false]
      refine List.pairwise_cons.2 ⟨fun z hz => ?_, insU_sorted x l h.2⟩
      rcases List.mem_cons.1 ((insU_perm x l).mem_iff.1 hz) with rfl | hz
      · exact (le_tot _ _).resolve_left q
      · exact h.1 z hz
theorem sortU_sorted : ∀ l, (sortU l).Pairwise (· ≤ ·)
  | [] => List.Pairwise.nil
  | x :: l => insU_sorted x _ (sortU_sorted l)
theorem merge_eq {a b : List (List UInt8)} (h : a.Perm b) : a.mergeSort (fun x y => decide (x ≤ y)) = sortU b := by
  refine List.Perm.eq_of_pairwise (le := (· ≤ ·)) (fun x y _ _ => le_anti) ?_ (sortU_sorted b) ((List.mergeSort_perm _ _).trans (h.trans (sortU_perm b).symm))
  have := List.pairwise_mergeSort (le := fun x y : List UInt8 => decide (x ≤ y)) (fun a b c h k => by simp only [decide_eq_true_eq] at *; exact le_tr h k) (fun a b => by simpa using le_tot a b) a
  exact this.imp fun h => by simpa using h
theorem sort_t : sortU [[109, 50], [109], [104, 105]] = [[104, 105], [109], [109, 50]] := by decide +kernel
end Go.Proofs.YtelhdbkkigehgaaGreatDoor

/- (*disk.Disk).Names, as a summary. -/
namespace Go.Proofs.YtelhdbkkigehgaaGreatDoor
open Go.RowKit Go.Maps Go.Sort Go.Lib Go.Eng Go.WideShapes Go.MapKept
open Go.WideElems (Fit rd rg rg_of rd_mk)

def toU (l : List Nat) : List UInt8 := l.map Nat.toUInt8
def ofU (l : List UInt8) : List Nat := l.map UInt8.toNat
noncomputable section
/-- The files' names in order. -/
def nmsS (args : List AV) (h : Heap) (c : Nat) : Option CRes := match args with
  | [.nilp] => some (.mk .nils h c)
  | [.ptr n o] => (cells? h n).bind fun tc => match nth tc.2 (o + 3) with
    | some .nilm => some (.mk .nils h c)
    | some (.map m) => match h.get m with
      | some (.map es cl) => bif Nat.ble es.length 1000000 && bornOk cl es && distinctN (borns es) then (keysOf es).bind fun ks => bif apartNs ks then
          match sortU (ks.map toU) with
          | [] => some (.mk .nils h c)
          | x :: l => outC (newCells h c 9 ((x :: l).map fun u => .str (ofU u)) (.slice c 0 (x :: l).length (x :: l).length true))
          else none
        else none
      | _ => none
    | _ => none
  | _ => none
end

theorem memNs_iff {x : List Nat} : ∀ {l : List (List Nat)}, memNs x l = false → x ∉ l
  | [], _ => by simp
  | y :: l, h => by
    unfold memNs at h
    cases e : nsEq x y with
    | true => simp [e] at h
    | false =>
      simp only [e, cond_false] at h
      intro hm
      rcases List.mem_cons.1 hm with rfl | hm
      · have : ∀ z : List Nat, nsEq z z = true := by intro z; induction z with | nil => rfl | cons a z ih => simp [nsEq, ih]
        rw [this] at e; cases e
      · exact memNs_iff h hm
theorem apartNs_nodup : ∀ {l : List (List Nat)}, apartNs l = true → l.Nodup
  | [], _ => List.nodup_nil
  | x :: l, h => by
    unfold apartNs at h
    cases e : memNs x l with
    | true => simp [e] at h
    | false =>
      simp only [e, cond_false] at h
      exact List.nodup_cons.2 ⟨memNs_iff e, apartNs_nodup h⟩
theorem distinctN_nodup : ∀ {l : List Nat}, distinctN l = true → l.Nodup
  | [], _ => List.nodup_nil
  | x :: l, h => by
    unfold distinctN at h
    rw [Bool.and_eq_true, Bool.not_eq_true'] at h
    refine List.nodup_cons.2 ⟨fun hm => ?_, distinctN_nodup h.2⟩
    rw [memN_iff.2 hm] at h
    cases h.1

def anyR : Value → Option (DataW Unit × List MemPlace) := fun _ => some (.lit (.bool true), [])

/-- What a map of texts comes to. -/
theorem es_facts {σ : Sig} {η : Env} {cl : Nat} : ∀ {es : List (AV × AV × Nat)} {ms : List MapEntry} {ks : List (List Nat)}, EsR σ η es ms → keysOf es = some ks → bornOk cl es = true →
    ms.map (·.key) = ks.map (fun k => Value.string (bs k)) ∧ (∀ k ∈ ks, allB k = true ∧ k.length ≤ 1000000) ∧ ms.map (·.born) = borns es ∧ (∀ x ∈ ms, x.born < cl) ∧ ms.length = es.length
  | [], [], ks, _, hk, _ => by simp [keysOf] at hk; subst hk; exact ⟨rfl, by simp, rfl, by simp, rfl⟩
  | [], _ :: _, _, h, _, _ => h.elim
  | _ :: _, [], _, h, _, _ => by obtain ⟨_, _, _⟩ := ‹AV × AV × Nat›; exact h.elim
  | (k, v, b) :: es, e :: ms, ks, ⟨h1, h2, h3, h4⟩, hk, hb => by
    unfold keysOf at hk
    split at hk
    · rename_i s
      cases q : Nat.ble s.length 1000000 with
      | false => simp [q] at hk
      | true =>
        simp only [q, cond_true, Option.map_eq_some_iff] at hk
        obtain ⟨ks', hk', rfl⟩ := hk
        unfold bornOk at hb
        rw [Bool.and_eq_true] at hb
        obtain ⟨i1, i2, i3, i4, i5⟩ := es_facts h4 hk' hb.2
        obtain ⟨s1, s2⟩ := conc_str.1 h1
        refine ⟨by simp only [List.map_cons, i1, s2], ?_, by simp only [List.map_cons, i3, h3, borns], ?_, by simp [i5]⟩
        · intro x hx
          rcases List.mem_cons.1 hx with rfl | hx
          · exact ⟨s1, Nat.le_of_ble_eq_true q⟩
          · exact i2 x hx
        · intro x hx
          rcases List.mem_cons.1 hx with rfl | hx
          · rw [h3]; exact Nat.le_of_ble_eq_true hb.1
          · exact i4 x hx
    · cases hk

theorem ofU_toU {l : List Nat} (h : allB l = true) : ofU (toU l) = l := by
  unfold ofU toU
  rw [List.map_map]
  have : ∀ b ∈ l, (UInt8.toNat ∘ Nat.toUInt8) b = b := fun b hb => u8_toNat (by simp only [allB, List.all_eq_true, decide_eq_true_eq] at h; exact h b hb)
  rw [List.map_congr_left this]
  simp
theorem keys_nodup : ∀ {ks : List (List Nat)}, ks.Nodup → (∀ k ∈ ks, allB k = true ∧ k.length ≤ 1000000) → (ks.map fun k => Value.string (bs k)).Nodup
  | [], _, _ => by simp
  | k :: ks, h, ha => by
    rw [List.nodup_cons] at h
    rw [List.map_cons, List.nodup_cons]
    refine ⟨fun hm => ?_, keys_nodup h.2 fun x hx => ha x (List.mem_cons_of_mem _ hx)⟩
    obtain ⟨y, hy, e⟩ := List.mem_map.1 hm
    have e2 : toU y = toU k := by
      simp only [Value.string.injEq, bs, ByteArray.mk.injEq] at e
      simpa [toU] using e
    have : y = k := by rw [← ofU_toU (ha y (List.mem_cons_of_mem _ hy)).1, e2, ofU_toU (ha k List.mem_cons_self).1]
    exact h.1 (this ▸ hy)

theorem names_of {σ : Sig} {η : Env} {cl : Nat} {es : List (AV × AV × Nat)} {ms : Array MapEntry} {ks : List (List Nat)} (hE : EsR σ η es ms.toList) (hk : keysOf es = some ks) (hb : bornOk cl es = true) (hl : es.length ≤ 1000000) (hd : distinctN (borns es) = true) (ha : apartNs ks = true) :
    Fit Tryz.prog 9 anyR ms cl ∧ ms.size ≤ 1000000 ∧ (strKeys (.map ((ms.toList.map (rg Tryz.prog 9 anyR)).foldr DataW.insert []))).Perm (ks.map toU) ∧ ∀ k ∈ ks, allB k = true := by
  obtain ⟨f1, f2, f3, f4, f5⟩ := es_facts hE hk hb
  have hkey : ∀ x ∈ ms.toList, ∃ k ∈ ks, x.key = .string (bs k) := fun x hx => by
    have : x.key ∈ ms.toList.map (·.key) := List.mem_map.2 ⟨x, hx, rfl⟩
    rw [f1] at this
    obtain ⟨k, h1, h2⟩ := List.mem_map.1 this
    exact ⟨k, h1, h2.symm⟩
  have hrd : ∀ x ∈ ms.toList, ∀ k ∈ ks, x.key = .string (bs k) → rd Tryz.prog 9 anyR x = some (.string (toU k), .lit (.bool true)) := fun x hx k hk e => by
    have h9 := Tryz.underlying9
    have hsz : (bs k).size ≤ maxLen := by rw [bs_size]; have := (f2 k hk).2; unfold maxLen; omega
    have hko : keyOf Tryz.prog 9 x.key = some (.string (toU k)) := by
      rw [e]
      simp only [keyOf, mapKey, h9, if_pos hsz]
      rfl
    have hv : anyR x.val = some (.lit (.bool true), []) := rfl
    exact rd_mk hko hv
  have hsize : ms.size = es.length := by rw [← f5]; simp
  refine ⟨⟨by rw [hsize]; unfold maxLen; omega, ⟨f4, by rw [f3]; exact distinctN_nodup hd, by rw [f1]; exact keys_nodup (apartNs_nodup ha) f2⟩, fun x hx => ?_⟩, by omega, ?_, fun k hk => (f2 k hk).1⟩
  · obtain ⟨k, h1, h2⟩ := hkey x hx
    exact ⟨_, hrd x hx k h1 h2⟩
  · have p := sorted_perm (ms.toList.map (rg Tryz.prog 9 anyR))
    have : ((ms.toList.map (rg Tryz.prog 9 anyR)).map fun p => strOf p.1) = ks.map toU := by
      rw [List.map_map]
      have e1 : ms.toList.map ((fun p => strOf p.1) ∘ rg Tryz.prog 9 anyR) = (ms.toList.map (·.key)).map (fun v => match v with | .string s => s.data.toList | _ => []) := by
        rw [List.map_map]
        apply List.map_congr_left
        intro x hx
        obtain ⟨k, h1, h2⟩ := hkey x hx
        simp only [Function.comp, rg_of (hrd x hx k h1 h2), strOf, h2]
        rfl
      rw [e1, f1, List.map_map]
      apply List.map_congr_left
      intro k _
      rfl
    rw [← this]
    exact p.map _

theorem str_rows {σ : Sig} {η : Env} : ∀ (l : List (List UInt8)), concs σ η (l.map fun u => AV.str (ofU u)) = some (l.map encStr) ∧ allOne (l.map encStr) = true
  | [] => ⟨rfl, rfl⟩
  | u :: l => by
    obtain ⟨h1, h2⟩ := str_rows (σ := σ) (η := η) l
    have hb : allB (ofU u) = true := by
      simp only [allB, List.all_eq_true, decide_eq_true_eq, ofU]
      intro x hx
      obtain ⟨y, _, rfl⟩ := List.mem_map.1 hx
      exact y.toNat_lt
    have he : bs (ofU u) = ⟨u.toArray⟩ := by
      unfold bs ofU
      rw [List.map_map]
      have : ∀ y ∈ u, (Nat.toUInt8 ∘ UInt8.toNat) y = y := fun y _ => by simp [Function.comp]
      rw [List.map_congr_left this]
      simp
    exact ⟨concs_cons.2 ⟨_, _, conc_str.2 ⟨hb, rfl⟩, h1, by rw [he]; rfl⟩, by simp only [List.map_cons, allOne, h2, Bool.and_true]; rfl⟩

theorem nms_ok {η : Env} {args : List AV} {h : Heap} {c : Nat} {v : AV} {h' : Heap} {c' : Nat} (he : nmsS args h c = some (.mk v h' c')) {σ : Sig} {w : World} {avs : List Value} (H : HR Tryz.prog σ η h c w) (ha : concs σ η args = some avs) : Calls Tryz.prog 272 avs.toArray w (Done Tryz.prog η σ h c w v h' c') := by
  unfold nmsS at he
  split at he
  · -- nil
    cases he
    obtain ⟨pv, rs, hp, hr, rfl⟩ := concs_cons.1 ha
    simp only [concs, Option.some.injEq] at hr
    subst hr
    simp only [conc, Option.some.injEq] at hp
    subst hp
    refine Calls.mono (names_nil w) ?_
    rintro e w' ⟨rfl, rfl⟩
    exact ⟨_, σ, rfl, rfl, Went.refl H⟩
  · rename_i n o
    obtain ⟨pv, rs, hp, hr, rfl⟩ := concs_cons.1 ha
    simp only [concs, Option.some.injEq] at hr
    subst hr
    obtain ⟨l, hl, rfl⟩ := conc_ptr.1 hp
    rw [Option.bind_eq_some_iff] at he
    obtain ⟨⟨t, cs⟩, hc, he⟩ := he
    obtain ⟨us, u1, u2, u3, _⟩ := H.cells hc hl
    have cell : ∀ a, nth cs (o + 3) = some a → ∃ u, conc σ η a = some u ∧ w.cell? ⟨l.blk, l.off + o + 3, none⟩ = some u := fun a ea => by
      rw [nth_eq] at ea
      obtain ⟨u, q1, q2⟩ := (concs_get u1 (o + 3)).2 a ea
      exact ⟨u, q2, by have := u3 _ _ q1; rwa [← Nat.add_assoc] at this⟩
    split at he
    · rename_i ea
      cases he
      obtain ⟨u, q1, q2⟩ := cell _ ea
      simp only [conc, Option.some.injEq] at q1
      subst q1
      refine Calls.mono (names_nilmap l.blk (l.off + o) w q2) ?_
      rintro e w' ⟨rfl, rfl⟩
      exact ⟨_, σ, rfl, rfl, Went.refl H⟩
    · rename_i m ea
      obtain ⟨u, q1, q2⟩ := cell _ ea
      obtain ⟨lm, hlm, rfl⟩ := conc_map.1 q1
      split at he
      · rename_i es cl hg
        obtain ⟨ms, hb, hE⟩ := H.mapAt hg hlm
        cases h0 : (Nat.ble es.length 1000000 && bornOk cl es && distinctN (borns es)) with
        | false => simp [h0] at he
        | true =>
        simp only [h0, cond_true, Option.bind_eq_some_iff] at he
        rw [Bool.and_eq_true, Bool.and_eq_true] at h0
        obtain ⟨ks, hk, he⟩ := he
        cases h1 : apartNs ks with
        | false => simp [h1] at he
        | true =>
        simp only [h1, cond_true] at he
        obtain ⟨F, hms, hperm, _⟩ := names_of hE hk h0.1.2 (Nat.le_of_ble_eq_true h0.1.1) h0.2 h1
        have hown := World.ownsMap_of_fit (R := anyR) hb F (fun _ _ _ h => h)
        have hsz : Maps.size (.map ((ms.toList.map (rg Tryz.prog 9 anyR)).foldr DataW.insert [])) = ms.size := length_read ms
        refine Calls.mono (names_at l.blk (l.off + o) lm.blk ms.size _ anyR w q2 hown (by rw [hsz]; unfold maxLen; omega) (by rw [hsz]; omega)) ?_
        rintro e w' ⟨v0, ss, rfl, p1, p2, p3, p4⟩
        have hmerge := merge_eq (p1.trans hperm)
        rw [hmerge] at p2
        have hlen : ss.length = (sortU (ks.map toU)).length := by rw [← hmerge]; exact (List.mergeSort_perm _ _).length_eq.symm
        rw [hlen] at p2
        split at he
        · rename_i es0
          cases he
          rw [es0] at hlen
          have : ss = [] := List.length_eq_zero_iff.1 hlen
          rw [p3.2 this]
          exact ⟨_, σ, rfl, conc_nils.2 rfl, Went.same H (fun k hk => p4.block k hk) p4.size p4.os p4.tape p4.output⟩
        · rename_i x xs es0
          rw [es0] at p2 hlen
          have he := outC_some he
          unfold newCells fCells at he
          rw [fAVs_eq] at he
          obtain ⟨hcb, he⟩ := putObj_ok he
          rw [fNat_eq] at he
          cases he
          obtain ⟨r1, r2⟩ := p2
          rcases r2 with ⟨_, r2⟩ | ⟨g, cap, cur, rfl, g1, g2, g3, g4, g5, g6⟩
          · simp at r2
          · obtain ⟨s1, s2⟩ := str_rows (σ := σ) (η := η) (x :: xs)
            have h9 : Tryz.prog.cellsOf 9 = 1 := by kernel_rfl
            have hgl : ((x :: xs).map encStr).length = (x :: xs).length := List.length_map _
            have wt := fresh_ok (P := Tryz.prog) (l := ⟨g, 0, cap - (x :: xs).length⟩) (o := .cells 9 ((x :: xs).map fun u => .str (ofU u))) (w' := w') H hcb g1 (fun k hk => p4.block k hk) p4.size p4.os p4.tape p4.output
              ⟨cur, (0, 0), (x :: xs).map encStr, g2, fun j _ q => by omega, concs_ext (ext_upd (H.new c (Nat.le_refl _))) s1, s2, fun j y hj => ?_, ?_⟩
            · refine ⟨_, _, rfl, conc_slice.2 ⟨_, upd_same _ _ _, ?_⟩, wt⟩
              simp only [if_true]
              rw [show (x :: xs).length + (cap - (x :: xs).length) = cap by omega]
            · rw [← g6] at hj
              rw [List.getElem?_take] at hj
              split at hj
              · simpa using hj
              · cases hj
            · rw [h9, hgl, g5]
              refine ⟨?_, by simp⟩
              show 0 + (x :: xs).length + (cap - (x :: xs).length) * 1 ≤ cap * 1
              omega
      · cases he
    · cases he
  · cases he

end Go.Proofs.YtelhdbkkigehgaaGreatDoor

/- bytealg.IndexByteString, as a summary. -/
namespace Go.Proofs.YtelhdbkkigehgaaGreatDoor
open Go.Eng

noncomputable section
def idxN (b : Nat) : List Nat → Nat → Option Nat
  | [], _ => none
  | x :: l, i => bif Nat.beq x b then some i else idxN b l (i + 1)
def idxS (args : List AV) : Option AV := match args with
  | [.str l, .int .u8 (.ofNat b)] => bif Nat.ble b 255 then (match idxN b l 0 with
    | some i => some (.int .i64 (.ofNat i))
    | none => some (.int .i64 (.negSucc 0))) else none
  | _ => none
end

theorem find_idx {b : Nat} (hb : b < 256) : ∀ (l : List Nat) (k : Nat), allB l = true → ((List.range l.length).find? fun i => ((l.map Nat.toUInt8)[i]?).getD default == b.toUInt8).map (· + k) = idxN b l k
  | [], k, _ => rfl
  | x :: l, k, h => by
    obtain ⟨h1, h2⟩ := allB_cons.1 h
    have ih := find_idx hb l (k + 1) h2
    rw [List.length_cons, List.range_succ_eq_map, List.find?_cons]
    simp only [List.map_cons, List.getElem?_cons_zero, Option.getD_some, idxN]
    have e : (x.toUInt8 == b.toUInt8) = Nat.beq x b := by
      rw [Bool.eq_iff_iff]
      constructor
      · intro q; rw [(u8_inj h1 hb).1 (by simpa using q)]; exact Nat.beq_refl b
      · intro q; rw [Nat.eq_of_beq_eq_true q]; simp
    rw [e]
    cases Nat.beq x b with
    | true => simp
    | false =>
      simp only [cond_false, List.find?_map, Option.map_map]
      rw [← ih]
      congr 1
      funext i
      simp only [Function.comp]
      omega

theorem idx_ok {η : Env} {args : List AV} {v : AV} (he : idxS args = some v) (σ : Sig) (avs : List Value) (w : World) (ha : concs σ η args = some avs) :
    Leads Tryz.prog 187 avs.toArray w (fun e w' => ∃ u, e = .returned u ∧ conc σ η v = some u ∧ Eng.Kept (fun _ => False) w w') := by
  unfold idxS at he
  split at he
  rotate_left
  · cases he
  rename_i l b
  obtain ⟨sv, r, hs, hr, rfl⟩ := concs_cons.1 ha
  obtain ⟨bv, r2, hb, hr2, rfl⟩ := concs_cons.1 hr
  simp only [concs, Option.some.injEq] at hr2
  subst hr2
  obtain ⟨hl, rfl⟩ := conc_str.1 hs
  rw [conc_int] at hb
  subst hb
  cases hbb : Nat.ble b 255 with
  | false => simp [hbb] at he
  | true =>
  simp only [hbb, cond_true] at he
  have hb := Nat.le_of_ble_eq_true hbb
  have hx : ∃ z, (idxN b l 0 = some z ∧ firstIdx (bs l) b.toUInt8 = (z : Int)) ∨ (idxN b l 0 = none ∧ firstIdx (bs l) b.toUInt8 = -1) := by
    have h0 := find_idx (b := b) (by omega) l 0 hl
    have hm : (List.range (bs l).size).find? (fun i : Nat => (bs l)[i]! == b.toUInt8) = idxN b l 0 := by
      rw [bs_size, ← h0]
      have : (fun i : Nat => (bs l)[i]! == b.toUInt8) = fun i : Nat => ((l.map Nat.toUInt8)[i]?).getD default == b.toUInt8 := by
        funext i
        rw [getElem!_def, bs_get, List.getElem?_map]
        cases l[i]? <;> rfl
      rw [this]
      cases (List.range l.length).find? _ <;> rfl
    unfold firstIdx
    rw [hm]
    cases idxN b l 0 with
    | some z => exact ⟨z, .inl ⟨rfl, rfl⟩⟩
    | none => exact ⟨0, .inr ⟨rfl, rfl⟩⟩
  have hrun : (callFunc 187 #[.string (bs l), .int .u8 (Int.ofNat b)]).run Tryz.prog w = .ok (.value (.int .i64 (firstIdx (bs l) b.toUInt8))) w := by
    rw [run_callFunc_extern Tryz.func187 (by kernel_rfl) (by kernel_rfl) (by kernel_rfl) (e := Extern.BytealgIndexByte.indexByte) (by kernel_rfl)]
    rw [run_indexByte_string]
    rfl
  obtain ⟨z, ⟨h1, h2⟩ | ⟨h1, h2⟩⟩ := hx
  · rw [h1] at he; cases he
    exact .inr ⟨_, w, hrun, _, rfl, by rw [h2]; exact conc_int.2 rfl, Eng.Kept.refl _ _⟩
  · rw [h1] at he; cases he
    exact .inr ⟨_, w, hrun, _, rfl, by rw [h2]; exact conc_int.2 rfl, Eng.Kept.refl _ _⟩
end Go.Proofs.YtelhdbkkigehgaaGreatDoor

/- bytealg.CountString, as a summary. -/
namespace Go.Proofs.YtelhdbkkigehgaaGreatDoor
open Go.Eng

noncomputable section
def cntN (b : Nat) : List Nat → Nat → Nat
  | [], n => n
  | x :: l, n => bif Nat.beq x b then cntN b l (n + 1) else cntN b l n
def cntS (args : List AV) : Option AV := match args with
  | [.str l, .int .u8 (.ofNat b)] => bif Nat.ble b 255 then some (.int .i64 (.ofNat (cntN b l 0))) else none
  | _ => none
end

theorem cntN_eq {b : Nat} (hb : b < 256) : ∀ (l : List Nat) (n : Nat), allB l = true → cntN b l n = n + Lib.countByte (l.map Nat.toUInt8) b.toUInt8
  | [], n, _ => by simp [cntN, Lib.countByte]
  | x :: l, n, h => by
    obtain ⟨h1, h2⟩ := allB_cons.1 h
    have e : (x.toUInt8 == b.toUInt8) = Nat.beq x b := by
      rw [Bool.eq_iff_iff]
      constructor
      · intro q; rw [(u8_inj h1 hb).1 (by simpa using q)]; exact Nat.beq_refl b
      · intro q; rw [Nat.eq_of_beq_eq_true q]; simp
    have ih := fun n => cntN_eq hb l n h2
    unfold cntN Lib.countByte
    rw [List.map_cons, List.count_cons, e]
    unfold Lib.countByte at ih
    cases Nat.beq x b with
    | true => simp only [cond_true, if_true, ih]; omega
    | false => simp only [cond_false, ih]; simp

theorem cnt_ok {η : Env} {args : List AV} {v : AV} (he : cntS args = some v) (σ : Sig) (avs : List Value) (w : World) (ha : concs σ η args = some avs) :
    Leads Tryz.prog 110 avs.toArray w (fun e w' => ∃ u, e = .returned u ∧ conc σ η v = some u ∧ Eng.Kept (fun _ => False) w w') := by
  unfold cntS at he
  split at he
  rotate_left
  · cases he
  rename_i l b
  obtain ⟨sv, r, hs, hr, rfl⟩ := concs_cons.1 ha
  obtain ⟨bv, r2, hb, hr2, rfl⟩ := concs_cons.1 hr
  simp only [concs, Option.some.injEq] at hr2
  subst hr2
  obtain ⟨hl, rfl⟩ := conc_str.1 hs
  rw [conc_int] at hb
  subst hb
  cases hbb : Nat.ble b 255 with
  | false => simp [hbb] at he
  | true =>
  simp only [hbb, cond_true, Option.some.injEq] at he
  subst he
  have hb := Nat.le_of_ble_eq_true hbb
  have hx : (bs l).data.toList = l.map Nat.toUInt8 := by simp [bs]
  have hrun : (callFunc 110 #[.string (bs l), .int .u8 (Int.ofNat b)]).run Tryz.prog w = .ok (.value (.int .i64 (Lib.countByte (bs l).data.toList b.toUInt8))) w := by
    rw [run_callFunc_extern Tryz.func110 (by kernel_rfl) (by kernel_rfl) (by kernel_rfl) (e := Extern.BytealgCount.count) (by kernel_rfl)]
    rw [Lib.run_countString]
    rfl
  refine .inr ⟨_, w, hrun, _, rfl, ?_, Eng.Kept.refl _ _⟩
  rw [hx]
  refine conc_int.2 ?_
  rw [cntN_eq (by omega) l 0 hl, Nat.zero_add]
  rfl
end Go.Proofs.YtelhdbkkigehgaaGreatDoor

/- spans.Check of any span. -/
namespace Go.Proofs.YtelhdbkkigehgaaGreatDoor
open Go.RowKit

def aggS (m : Spn) : Value := .agg #[.int .i64 m.tr, .int .i64 m.id, .int .i64 m.pa, .string m.se, .string m.ho, .int .i64 m.st, .int .i64 m.du, .string m.no]
def numsV (p : Nat) : Value := .agg #[.pointer (some ⟨p, 0, none⟩), .int .i64 1, .int .i64 2147483647, .pointer (some ⟨p, 1, none⟩), .int .i64 1, .int .i64 2147483647, .pointer (some ⟨p, 2, none⟩), .int .i64 0, .int .i64 2147483647, .pointer (some ⟨p, 5, none⟩), .int .i64 0, .int .i64 1073741824, .pointer (some ⟨p, 6, none⟩), .int .i64 0, .int .i64 1073741824]

theorem ix0 (p : Nat) (W : World) : (Instr.index 556 (numsV p) (.int .i64 0)).run Tryz.prog W = .ok (.agg #[.pointer (some ⟨p, 0, none⟩), .int .i64 1, .int .i64 2147483647]) W := by kernel_rfl
theorem ix1 (p : Nat) (W : World) : (Instr.index 556 (numsV p) (.int .i64 1)).run Tryz.prog W = .ok (.agg #[.pointer (some ⟨p, 1, none⟩), .int .i64 1, .int .i64 2147483647]) W := by kernel_rfl
theorem ix2 (p : Nat) (W : World) : (Instr.index 556 (numsV p) (.int .i64 2)).run Tryz.prog W = .ok (.agg #[.pointer (some ⟨p, 2, none⟩), .int .i64 0, .int .i64 2147483647]) W := by kernel_rfl
theorem ix3 (p : Nat) (W : World) : (Instr.index 556 (numsV p) (.int .i64 3)).run Tryz.prog W = .ok (.agg #[.pointer (some ⟨p, 5, none⟩), .int .i64 0, .int .i64 1073741824]) W := by kernel_rfl
theorem ix4 (p : Nat) (W : World) : (Instr.index 556 (numsV p) (.int .i64 4)).run Tryz.prog W = .ok (.agg #[.pointer (some ⟨p, 6, none⟩), .int .i64 0, .int .i64 1073741824]) W := by kernel_rfl
set_option maxHeartbeats 4000000 in
set_option maxRecDepth 100000 in
theorem numbers_any (p : Nat) (w : World) : Calls Tryz.prog 463 #[.pointer (some ⟨p, 0, none⟩)] w fun e w' => e = .returned (numsV p) ∧ Kept (fun _ => False) w w' := by
  go_enter Tryz.func463, Tryz.ntmps463
  go_wp2
  go_region
  all_goals go_wp2
  refine bodyPost_ret (v := _) (by simp [results, Tryz.results463, go_sem]; try rfl) rfl ?_
  exact ⟨rfl, ((Kept.refl _ w).alloc _).drew⟩

def offJ : Nat → Nat | 0 => 0 | 1 => 1 | 2 => 2 | 3 => 5 | _ => 6
def leastJ : Nat → Int | 0 => 1 | 1 => 1 | _ => 0
def mostJ : Nat → Int | 0 => 2147483647 | 1 => 2147483647 | 2 => 2147483647 | _ => 1073741824
def numJ (m : Spn) : Nat → Int | 0 => m.tr | 1 => m.id | 2 => m.pa | 3 => m.st | _ => m.du
def okJ (m : Spn) (j : Nat) : Bool := decide (leastJ j ≤ numJ m j) && decide (numJ m j ≤ mostJ j)
def chkB (m : Spn) : Bool := okJ m 0 && okJ m 1 && okJ m 2 && okJ m 3 && okJ m 4 && nameB m.se && nameB m.ho && decide (m.no.size ≤ 24)
def errN : Bool → Int | true => 0 | false => 2
theorem chk_num {m : Spn} (h : chkB m = true) : (1 ≤ m.tr ∧ m.tr ≤ 2147483647) ∧ (1 ≤ m.id ∧ m.id ≤ 2147483647) ∧ (0 ≤ m.pa ∧ m.pa ≤ 2147483647) ∧ (0 ≤ m.st ∧ m.st ≤ 1073741824) ∧ (0 ≤ m.du ∧ m.du ≤ 1073741824) := by
  unfold chkB okJ leastJ mostJ numJ at h
  simp at h
  omega
theorem chk_not {m : Spn} {j : Nat} (hj : j < 5) (h : okJ m j = false) : chkB m = false := by
  unfold chkB
  obtain rfl | rfl | rfl | rfl | rfl : j = 0 ∨ j = 1 ∨ j = 2 ∨ j = 3 ∨ j = 4 := by omega
  all_goals simp [h]
theorem ixJ (p j : Nat) (hj : j < 5) (W : World) : (Instr.index 556 (numsV p) (.int .i64 (j : Int))).run Tryz.prog W = .ok (.agg #[.pointer (some ⟨p, offJ j, none⟩), .int .i64 (leastJ j), .int .i64 (mostJ j)]) W := by
  obtain rfl | rfl | rfl | rfl | rfl : j = 0 ∨ j = 1 ∨ j = 2 ∨ j = 3 ∨ j = 4 := by omega
  · exact ix0 p W
  · exact ix1 p W
  · exact ix2 p W
  · exact ix3 p W
  · exact ix4 p W
/-- A span lies at a block's beginning. -/
def SpanAt (w : World) (g : Nat) (m : Spn) : Prop := ∀ j u, m.cells[j]? = some u → w.cell? ⟨g, j, none⟩ = some u
theorem SpanAt.kept {S : Nat → Prop} {w w' : World} {g : Nat} {m : Spn} (h : SpanAt w g m) (hK : Kept S w w') (hS : ¬ S g) : SpanAt w' g m := fun j u hj => hK.cell (h j u hj) hS
theorem SpanAt.keptF {w w' : World} {g : Nat} {m : Spn} (h : SpanAt w g m) (hK : Kept (fun _ => False) w w') : SpanAt w' g m := h.kept hK (fun f => f)
theorem SpanAt.new {w : World} {m : Spn} : SpanAt (w.alloc (.cells #[.int .i64 m.tr, .int .i64 m.id, .int .i64 m.pa, .string m.se, .string m.ho, .int .i64 m.st, .int .i64 m.du, .string m.no] 35)) w.heap.size m := by
  intro j u hj
  unfold Spn.cells at hj
  rcases j with _ | _ | _ | _ | _ | _ | _ | _ | j <;> simp at hj <;> subst hj <;> simp
theorem SpanAt.num {w : World} {g : Nat} {m : Spn} (h : SpanAt w g m) (j : Nat) : w.cell? ⟨g, offJ j, none⟩ = some (.int .i64 (numJ m j)) := by
  match j with
  | 0 => exact h 0 _ rfl
  | 1 => exact h 1 _ rfl
  | 2 => exact h 2 _ rfl
  | 3 => exact h 5 _ rfl
  | j + 4 => exact h 6 _ rfl
set_option maxHeartbeats 8000000 in
set_option maxRecDepth 100000 in
theorem check_all (m : Spn) (hs : m.se.size ≤ 9223372036854775807) (hh : m.ho.size ≤ 9223372036854775807) (hn : m.no.size ≤ 9223372036854775807) (w : World) : Calls Tryz.prog 353 #[aggS m] w fun e w' => e = .returned (.int .i64 (errN (chkB m))) ∧ Kept (fun _ => False) w w' := by
  have N0 := Lib.hid (name_all m.se hs)
  have N1 := Lib.hid (name_all m.ho hh)
  unfold aggS
  go_enter Tryz.func353, Tryz.ntmps353
  go_wp2_with fail
  obtain ⟨W, hW⟩ : ∃ W, w.alloc (.cells #[.int .i64 m.tr, .int .i64 m.id, .int .i64 m.pa, .string m.se, .string m.ho, .int .i64 m.st, .int .i64 m.du, .string m.no] 35) = W := ⟨_, rfl⟩
  have K0 : Kept (fun _ => False) w W := by rw [← hW]; exact (Kept.refl _ w).alloc _
  have q0 : SpanAt W w.heap.size m := by rw [← hW]; exact SpanAt.new
  rw [hW]
  clear hW
  refine (numbers_any w.heap.size W).mono ?_
  rintro e w1 ⟨rfl, k1⟩
  have K1 := Lib.hid (K0.trans k1 (fun _ _ f => f) (fun _ _ f => f) : Kept (fun _ => False) w w1)
  have Q1 := Lib.hid (q0.keptF k1)
  clear k1 K0 q0
  obtain ⟨nv, hnv⟩ : ∃ nv, numsV w.heap.size = nv := ⟨_, rfl⟩
  have X := Lib.hid (ixJ w.heap.size)
  rw [hnv] at X ⊢
  clear hnv
  obtain ⟨p, hp⟩ : ∃ p, w.heap.size = p := ⟨_, rfl⟩
  rw [hp] at X Q1 ⊢
  clear hp
  go_wp2
  go_loopg [6] 5 (fun g t wr => ∃ i : Nat, i + g = 5 ∧ t = .int .i64 i ∧ Kept (fun _ => False) w1 wr ∧ ∀ j, j < i → okJ m j = true)
  case atStart => exact ⟨0, by omega, rfl, Kept.refl _ _, fun j hj => absurd hj (Nat.not_lt_zero j)⟩
  case round =>
    obtain ⟨i, hi, rfl, KW, hok⟩ := hrel
    have KF := Lib.hid KW
    have HI := Lib.hid hi
    have OK := Lib.hid hok
    have QW := Lib.hid (Q1.out.keptF KW)
    clear KW hi hok
    by_cases h5 : i < 5
    · have i1 : (i : Int) < 5 := by omega
      have x0 := X.out i h5
      obtain ⟨l, hl⟩ : ∃ l, leastJ i = l := ⟨_, rfl⟩
      obtain ⟨u, hu⟩ : ∃ u, mostJ i = u := ⟨_, rfl⟩
      obtain ⟨x, hx⟩ : ∃ x, numJ m i = x := ⟨_, rfl⟩
      obtain ⟨o, ho⟩ : ∃ o, offJ i = o := ⟨_, rfl⟩
      have qq := QW.out.num i
      rw [hx, ho] at qq
      rw [hl, hu, ho] at x0
      have HL := Lib.hid hl; have HU := Lib.hid hu; have HX := Lib.hid hx
      clear hl hu hx ho
      go_wp2
      obtain ⟨a0, a1, a2, _, _⟩ := (Kept.refl (fun _ => False) (wr.alloc (.cells #[.pointer (some ⟨p, o, none⟩), .int .i64 l, .int .i64 u] 555))).fresh3 (fun f => f)
      have KA := Lib.hid (KF.out.alloc (.cells #[.pointer (some ⟨p, o, none⟩), .int .i64 l, .int .i64 u] 555))
      have qq2 := ((Kept.refl (fun _ => False) wr).alloc (.cells #[.pointer (some ⟨p, o, none⟩), .int .i64 l, .int .i64 u] 555)).cell qq (fun f => f)
      obtain ⟨W2, hW2⟩ : ∃ W2, wr.alloc (.cells #[.pointer (some ⟨p, o, none⟩), .int .i64 l, .int .i64 u] 555) = W2 := ⟨_, rfl⟩
      rw [hW2] at a0 a1 a2 KA qq2 ⊢
      clear hW2 qq x0
      by_cases c1 : x < l
      · go_region
        all_goals go_wp2
        all_goals go_ret
        have e : chkB m = false := chk_not h5 (by unfold okJ; rw [HX.out, HL.out]; simp; omega)
        exact ⟨by rw [e]; rfl, K1.out.trans KA.out.drew (fun _ _ f => f) (fun _ _ f => f)⟩
      · by_cases c2 : u < x
        · refine wp_region_held_drew (S := (fun w' => w'.cell? ⟨wr.heap.size, 0, none⟩ = some (.pointer (some ⟨p, o, none⟩)) ∧ w'.cell? ⟨wr.heap.size, 1, none⟩ = some (.int .i64 l) ∧ w'.cell? ⟨wr.heap.size, 2, none⟩ = some (.int .i64 u) ∧ w'.cell? ⟨p, o, none⟩ = some (.int .i64 x))) (by kernel_rfl) ?_ (fun hHeld => ?_)
          · exact ⟨a0, a1, a2, qq2⟩
          refine wpAnyH_take (i := 0) (v := ?_) opAt0 (by kernel_rfl) (by kernel_rfl) (by kernel_rfl) (fun _ _ _ h => h) (Or.inl ⟨by rfl, ?_⟩) hHeld ?_
          case refine_2 => (intro w hSw; (try dsimp only at hSw); go_simp; all_goals (with_reducible rfl))
          (try simp only [Act.put]); (try simp only [List.setIfInBounds_toArray]); (try simp only [List.set_cons_succ]); (try simp only [List.set_cons_zero])
          refine wpAnyH_take (i := 1) (v := ?_) opAt1 (by kernel_rfl) (by kernel_rfl) (by kernel_rfl) (fun _ _ _ h => h) (Or.inl ⟨by rfl, ?_⟩) hHeld ?_
          case refine_2 => (intro w hSw; (try dsimp only at hSw); go_simp; all_goals (with_reducible rfl))
          (try simp only [Act.put]); (try simp only [List.setIfInBounds_toArray]); (try simp only [List.set_cons_succ]); (try simp only [List.set_cons_zero])
          refine wpAnyH_take (i := 2) (v := ?_) opAt2 (by kernel_rfl) (by kernel_rfl) (by kernel_rfl) (fun _ _ _ h => h) (Or.inl ⟨by rfl, ?_⟩) hHeld ?_
          case refine_2 => (intro w hSw; (try dsimp only at hSw); go_simp; all_goals (with_reducible rfl))
          (try simp only [Act.put]); (try simp only [List.setIfInBounds_toArray]); (try simp only [List.set_cons_succ]); (try simp only [List.set_cons_zero])
          refine wpAnyH_take (i := 3) (v := ?_) opAt3 (by kernel_rfl) (by kernel_rfl) (by kernel_rfl) (fun _ _ _ h => h) (Or.inl ⟨by rfl, ?_⟩) hHeld ?_
          case refine_2 => (intro w hSw; (try dsimp only at hSw); go_simp; all_goals (with_reducible rfl))
          (try simp only [Act.put]); (try simp only [List.setIfInBounds_toArray]); (try simp only [List.set_cons_succ]); (try simp only [List.set_cons_zero])
          refine wpAnyH_take (i := 4) (v := ?_) opAt4 (by kernel_rfl) (by kernel_rfl) (by kernel_rfl) (fun _ _ _ h => h) (Or.inl ⟨by rfl, ?_⟩) hHeld ?_
          case refine_2 => (intro w hSw; (try dsimp only at hSw); go_simp; all_goals (with_reducible rfl))
          (try simp only [Act.put]); (try simp only [List.setIfInBounds_toArray]); (try simp only [List.set_cons_succ]); (try simp only [List.set_cons_zero])
          refine wpAnyH_take (i := 5) (v := ?_) opAt5 (by kernel_rfl) (by kernel_rfl) (by kernel_rfl) (fun _ _ _ h => h) (Or.inl ⟨by rfl, ?_⟩) hHeld ?_
          case refine_2 => (intro w hSw; (try dsimp only at hSw); go_simp; all_goals (with_reducible rfl))
          (try simp only [Act.put]); (try simp only [List.setIfInBounds_toArray]); (try simp only [List.set_cons_succ]); (try simp only [List.set_cons_zero])
          refine wpAnyH_take (i := 6) (v := ?_) opAt6 (by kernel_rfl) (by kernel_rfl) (by kernel_rfl) (fun _ _ _ h => h) (Or.inl ⟨by rfl, ?_⟩) hHeld ?_
          case refine_2 => (intro w hSw; (try dsimp only at hSw); go_simp; all_goals (with_reducible rfl))
          (try simp only [Act.put]); (try simp only [List.setIfInBounds_toArray]); (try simp only [List.set_cons_succ]); (try simp only [List.set_cons_zero])
          refine wpAnyH_take (i := 7) (v := ?_) opAt7 (by kernel_rfl) (by kernel_rfl) (by kernel_rfl) (fun _ _ _ h => h) (Or.inl ⟨by rfl, ?_⟩) hHeld ?_
          case refine_2 => (intro w hSw; (try dsimp only at hSw); go_simp; all_goals (with_reducible rfl))
          (try simp only [Act.put]); (try simp only [List.setIfInBounds_toArray]); (try simp only [List.set_cons_succ]); (try simp only [List.set_cons_zero])
          refine wpAnyH_take (i := 8) (v := ?_) opAt8 (by kernel_rfl) (by kernel_rfl) (by kernel_rfl) (fun _ _ _ h => h) (Or.inl ⟨by rfl, ?_⟩) hHeld ?_
          case refine_2 => (intro w hSw; (try dsimp only at hSw); go_simp; all_goals (with_reducible rfl))
          (try simp only [Act.put]); (try simp only [List.setIfInBounds_toArray]); (try simp only [List.set_cons_succ]); (try simp only [List.set_cons_zero])
          refine wpAnyH_take (i := 9) (v := ?_) opAt9 (by kernel_rfl) (by kernel_rfl) (by kernel_rfl) (fun _ _ _ h => h) (Or.inl ⟨by rfl, ?_⟩) hHeld ?_
          case refine_2 => (intro w hSw; (try dsimp only at hSw); go_simp; all_goals (with_reducible rfl))
          (try simp only [Act.put]); (try simp only [List.setIfInBounds_toArray]); (try simp only [List.set_cons_succ]); (try simp only [List.set_cons_zero])
          refine wpAnyH_take (i := 10) (v := ?_) opAt10 (by kernel_rfl) (by kernel_rfl) (by kernel_rfl) (fun _ _ _ h => h) (Or.inl ⟨by rfl, ?_⟩) hHeld ?_
          case refine_2 => (intro w hSw; (try dsimp only at hSw); go_simp; all_goals (with_reducible rfl))
          (try simp only [Act.put]); (try simp only [List.setIfInBounds_toArray]); (try simp only [List.set_cons_succ]); (try simp only [List.set_cons_zero])
          refine wpAnyH_take (i := 11) (v := ?_) opAt11 (by kernel_rfl) (by kernel_rfl) (by kernel_rfl) (fun _ _ _ h => h) (Or.inl ⟨by rfl, ?_⟩) hHeld ?_
          case refine_2 => (intro w hSw; (try dsimp only at hSw); go_simp; all_goals (with_reducible rfl))
          (try simp only [Act.put]); (try simp only [List.setIfInBounds_toArray]); (try simp only [List.set_cons_succ]); (try simp only [List.set_cons_zero])
          refine wpAnyH_take (i := 12) (v := ?_) opAt12 (by kernel_rfl) (by kernel_rfl) (by kernel_rfl) (fun _ _ _ h => h) (Or.inl ⟨by rfl, ?_⟩) hHeld ?_
          case refine_2 => (intro w hSw; (try dsimp only at hSw); go_simp; all_goals (with_reducible rfl))
          (try simp only [Act.put]); (try simp only [List.setIfInBounds_toArray]); (try simp only [List.set_cons_succ]); (try simp only [List.set_cons_zero])
          refine wpAnyH_take (i := 13) (v := ?_) opAt13 (by kernel_rfl) (by kernel_rfl) (by kernel_rfl) (fun _ _ _ h => h) (Or.inl ⟨by rfl, ?_⟩) hHeld ?_
          case refine_2 => (intro w hSw; (try dsimp only at hSw); go_simp; all_goals (with_reducible rfl))
          (try simp only [Act.put]); (try simp only [List.setIfInBounds_toArray]); (try simp only [List.set_cons_succ]); (try simp only [List.set_cons_zero])
          refine wpAnyH_take (i := 14) (v := ?_) opAt14 (by kernel_rfl) (by kernel_rfl) (by kernel_rfl) (fun _ _ _ h => h) (Or.inl ⟨by rfl, ?_⟩) hHeld ?_
          case refine_2 => (intro w hSw; (try dsimp only at hSw); go_simp; all_goals (with_reducible rfl))
          (try simp only [Act.put]); (try simp only [List.setIfInBounds_toArray]); (try simp only [List.set_cons_succ]); (try simp only [List.set_cons_zero])
          refine wpAnyH_take (i := 15) (v := ?_) opAt15 (by kernel_rfl) (by kernel_rfl) (by kernel_rfl) (fun _ _ _ h => h) (Or.inl ⟨by rfl, ?_⟩) hHeld ?_
          case refine_2 => (intro w hSw; (try dsimp only at hSw); go_simp; all_goals (with_reducible rfl))
          (try simp only [Act.put]); (try simp only [List.setIfInBounds_toArray]); (try simp only [List.set_cons_succ]); (try simp only [List.set_cons_zero])
          refine wpAnyH_done (by kernel_rfl) ?_ _
          go_wp2
          go_ret
          have e : chkB m = false := chk_not h5 (by unfold okJ; rw [HX.out, HU.out]; simp; omega)
          exact ⟨by rw [e]; rfl, K1.out.trans KA.out.drew (fun _ _ f => f) (fun _ _ f => f)⟩
        · refine wp_region_held_drew (S := (fun w' => w'.cell? ⟨wr.heap.size, 0, none⟩ = some (.pointer (some ⟨p, o, none⟩)) ∧ w'.cell? ⟨wr.heap.size, 1, none⟩ = some (.int .i64 l) ∧ w'.cell? ⟨wr.heap.size, 2, none⟩ = some (.int .i64 u) ∧ w'.cell? ⟨p, o, none⟩ = some (.int .i64 x))) (by kernel_rfl) ?_ (fun hHeld => ?_)
          · exact ⟨a0, a1, a2, qq2⟩
          refine wpAnyH_take (i := 0) (v := ?_) opAt0 (by kernel_rfl) (by kernel_rfl) (by kernel_rfl) (fun _ _ _ h => h) (Or.inl ⟨by rfl, ?_⟩) hHeld ?_
          case refine_2 => (intro w hSw; (try dsimp only at hSw); go_simp; all_goals (with_reducible rfl))
          (try simp only [Act.put]); (try simp only [List.setIfInBounds_toArray]); (try simp only [List.set_cons_succ]); (try simp only [List.set_cons_zero])
          refine wpAnyH_take (i := 1) (v := ?_) opAt1 (by kernel_rfl) (by kernel_rfl) (by kernel_rfl) (fun _ _ _ h => h) (Or.inl ⟨by rfl, ?_⟩) hHeld ?_
          case refine_2 => (intro w hSw; (try dsimp only at hSw); go_simp; all_goals (with_reducible rfl))
          (try simp only [Act.put]); (try simp only [List.setIfInBounds_toArray]); (try simp only [List.set_cons_succ]); (try simp only [List.set_cons_zero])
          refine wpAnyH_take (i := 2) (v := ?_) opAt2 (by kernel_rfl) (by kernel_rfl) (by kernel_rfl) (fun _ _ _ h => h) (Or.inl ⟨by rfl, ?_⟩) hHeld ?_
          case refine_2 => (intro w hSw; (try dsimp only at hSw); go_simp; all_goals (with_reducible rfl))
          (try simp only [Act.put]); (try simp only [List.setIfInBounds_toArray]); (try simp only [List.set_cons_succ]); (try simp only [List.set_cons_zero])
          refine wpAnyH_take (i := 3) (v := ?_) opAt3 (by kernel_rfl) (by kernel_rfl) (by kernel_rfl) (fun _ _ _ h => h) (Or.inl ⟨by rfl, ?_⟩) hHeld ?_
          case refine_2 => (intro w hSw; (try dsimp only at hSw); go_simp; all_goals (with_reducible rfl))
          (try simp only [Act.put]); (try simp only [List.setIfInBounds_toArray]); (try simp only [List.set_cons_succ]); (try simp only [List.set_cons_zero])
          refine wpAnyH_take (i := 4) (v := ?_) opAt4 (by kernel_rfl) (by kernel_rfl) (by kernel_rfl) (fun _ _ _ h => h) (Or.inl ⟨by rfl, ?_⟩) hHeld ?_
          case refine_2 => (intro w hSw; (try dsimp only at hSw); go_simp; all_goals (with_reducible rfl))
          (try simp only [Act.put]); (try simp only [List.setIfInBounds_toArray]); (try simp only [List.set_cons_succ]); (try simp only [List.set_cons_zero])
          refine wpAnyH_take (i := 5) (v := ?_) opAt5 (by kernel_rfl) (by kernel_rfl) (by kernel_rfl) (fun _ _ _ h => h) (Or.inl ⟨by rfl, ?_⟩) hHeld ?_
          case refine_2 => (intro w hSw; (try dsimp only at hSw); go_simp; all_goals (with_reducible rfl))
          (try simp only [Act.put]); (try simp only [List.setIfInBounds_toArray]); (try simp only [List.set_cons_succ]); (try simp only [List.set_cons_zero])
          refine wpAnyH_take (i := 6) (v := ?_) opAt6 (by kernel_rfl) (by kernel_rfl) (by kernel_rfl) (fun _ _ _ h => h) (Or.inl ⟨by rfl, ?_⟩) hHeld ?_
          case refine_2 => (intro w hSw; (try dsimp only at hSw); go_simp; all_goals (with_reducible rfl))
          (try simp only [Act.put]); (try simp only [List.setIfInBounds_toArray]); (try simp only [List.set_cons_succ]); (try simp only [List.set_cons_zero])
          refine wpAnyH_take (i := 7) (v := ?_) opAt7 (by kernel_rfl) (by kernel_rfl) (by kernel_rfl) (fun _ _ _ h => h) (Or.inl ⟨by rfl, ?_⟩) hHeld ?_
          case refine_2 => (intro w hSw; (try dsimp only at hSw); go_simp; all_goals (with_reducible rfl))
          (try simp only [Act.put]); (try simp only [List.setIfInBounds_toArray]); (try simp only [List.set_cons_succ]); (try simp only [List.set_cons_zero])
          refine wpAnyH_take (i := 8) (v := ?_) opAt8 (by kernel_rfl) (by kernel_rfl) (by kernel_rfl) (fun _ _ _ h => h) (Or.inl ⟨by rfl, ?_⟩) hHeld ?_
          case refine_2 => (intro w hSw; (try dsimp only at hSw); go_simp; all_goals (with_reducible rfl))
          (try simp only [Act.put]); (try simp only [List.setIfInBounds_toArray]); (try simp only [List.set_cons_succ]); (try simp only [List.set_cons_zero])
          refine wpAnyH_take (i := 9) (v := ?_) opAt9 (by kernel_rfl) (by kernel_rfl) (by kernel_rfl) (fun _ _ _ h => h) (Or.inl ⟨by rfl, ?_⟩) hHeld ?_
          case refine_2 => (intro w hSw; (try dsimp only at hSw); go_simp; all_goals (with_reducible rfl))
          (try simp only [Act.put]); (try simp only [List.setIfInBounds_toArray]); (try simp only [List.set_cons_succ]); (try simp only [List.set_cons_zero])
          refine wpAnyH_take (i := 10) (v := ?_) opAt10 (by kernel_rfl) (by kernel_rfl) (by kernel_rfl) (fun _ _ _ h => h) (Or.inl ⟨by rfl, ?_⟩) hHeld ?_
          case refine_2 => (intro w hSw; (try dsimp only at hSw); go_simp; all_goals (with_reducible rfl))
          (try simp only [Act.put]); (try simp only [List.setIfInBounds_toArray]); (try simp only [List.set_cons_succ]); (try simp only [List.set_cons_zero])
          refine wpAnyH_take (i := 11) (v := ?_) opAt11 (by kernel_rfl) (by kernel_rfl) (by kernel_rfl) (fun _ _ _ h => h) (Or.inl ⟨by rfl, ?_⟩) hHeld ?_
          case refine_2 => (intro w hSw; (try dsimp only at hSw); go_simp; all_goals (with_reducible rfl))
          (try simp only [Act.put]); (try simp only [List.setIfInBounds_toArray]); (try simp only [List.set_cons_succ]); (try simp only [List.set_cons_zero])
          refine wpAnyH_take (i := 12) (v := ?_) opAt12 (by kernel_rfl) (by kernel_rfl) (by kernel_rfl) (fun _ _ _ h => h) (Or.inl ⟨by rfl, ?_⟩) hHeld ?_
          case refine_2 => (intro w hSw; (try dsimp only at hSw); go_simp; all_goals (with_reducible rfl))
          (try simp only [Act.put]); (try simp only [List.setIfInBounds_toArray]); (try simp only [List.set_cons_succ]); (try simp only [List.set_cons_zero])
          refine wpAnyH_take (i := 13) (v := ?_) opAt13 (by kernel_rfl) (by kernel_rfl) (by kernel_rfl) (fun _ _ _ h => h) (Or.inl ⟨by rfl, ?_⟩) hHeld ?_
          case refine_2 => (intro w hSw; (try dsimp only at hSw); go_simp; all_goals (with_reducible rfl))
          (try simp only [Act.put]); (try simp only [List.setIfInBounds_toArray]); (try simp only [List.set_cons_succ]); (try simp only [List.set_cons_zero])
          refine wpAnyH_take (i := 14) (v := ?_) opAt14 (by kernel_rfl) (by kernel_rfl) (by kernel_rfl) (fun _ _ _ h => h) (Or.inl ⟨by rfl, ?_⟩) hHeld ?_
          case refine_2 => (intro w hSw; (try dsimp only at hSw); go_simp; all_goals (with_reducible rfl))
          (try simp only [Act.put]); (try simp only [List.setIfInBounds_toArray]); (try simp only [List.set_cons_succ]); (try simp only [List.set_cons_zero])
          refine wpAnyH_take (i := 15) (v := ?_) opAt15 (by kernel_rfl) (by kernel_rfl) (by kernel_rfl) (fun _ _ _ h => h) (Or.inl ⟨by rfl, ?_⟩) hHeld ?_
          case refine_2 => (intro w hSw; (try dsimp only at hSw); go_simp; all_goals (with_reducible rfl))
          (try simp only [Act.put]); (try simp only [List.setIfInBounds_toArray]); (try simp only [List.set_cons_succ]); (try simp only [List.set_cons_zero])
          refine wpAnyH_done (by kernel_rfl) ?_ _
          go_wp2
          go_roundg (5 - i - 1)
          case measure => have := HI.out; omega
          case rel =>
            refine ⟨i + 1, by omega, by go_num, KA.out.drew, fun j hj => ?_⟩
            rcases Nat.lt_or_ge j i with h | h
            · exact OK.out j h
            · obtain rfl : j = i := by omega
              unfold okJ; rw [HX.out, HL.out, HU.out]; simp; omega
    · have i1 : ¬ (i : Int) < 5 := by omega
      obtain ⟨b0, hb0⟩ : ∃ b, nameB m.se = b := ⟨_, rfl⟩
      obtain ⟨b1, hb1⟩ : ∃ b, nameB m.ho = b := ⟨_, rfl⟩
      have q3 := QW.out 3 _ rfl
      have q4 := QW.out 4 _ rfl
      have q7 := QW.out 7 _ rfl
      have E : chkB m = (b0 && b1 && decide (m.no.size ≤ 24)) := by
        unfold chkB
        have h := OK.out
        have hi := HI.out
        rw [h 0 (by omega), h 1 (by omega), h 2 (by omega), h 3 (by omega), h 4 (by omega), hb0, hb1]
        rfl
      have EE := Lib.hid E
      clear E
      rw [hb0] at N0
      rw [hb1] at N1
      clear hb0 hb1
      by_cases h24 : (24 : Int) < (m.no.size : Int)
      · have e24 : decide (m.no.size ≤ 24) = false := by simp; omega
        rw [e24] at EE
        go_wp2_with fail
        refine (N0.out _).mono ?_
        rintro e w2 ⟨rfl, k2⟩
        replace q4 := k2.cell q4 (fun f => f)
        replace q7 := k2.cell q7 (fun f => f)
        have K2 := Lib.hid (KF.out.trans k2 (fun _ _ f => f) (fun _ _ f => f) : Kept (fun _ => False) w1 w2)
        clear k2
        cases b0 with
        | false =>
          go_wp2
          go_ret
          exact ⟨by rw [EE.out]; rfl, K1.out.trans K2.out (fun _ _ f => f) (fun _ _ f => f)⟩
        | true =>
          go_wp2_with fail
          refine (N1.out _).mono ?_
          rintro e w3 ⟨rfl, k3⟩
          replace q7 := k3.cell q7 (fun f => f)
          have K3 := Lib.hid (K2.out.trans k3 (fun _ _ f => f) (fun _ _ f => f) : Kept (fun _ => False) w1 w3)
          clear k3
          cases b1 with
          | false =>
            go_wp2
            go_ret
            exact ⟨by rw [EE.out]; rfl, K1.out.trans K3.out (fun _ _ f => f) (fun _ _ f => f)⟩
          | true =>
            go_wp2
            go_ret
            exact ⟨by rw [EE.out]; rfl, K1.out.trans K3.out (fun _ _ f => f) (fun _ _ f => f)⟩
      · have e24 : decide (m.no.size ≤ 24) = true := by simp; omega
        rw [e24] at EE
        go_wp2_with fail
        refine (N0.out _).mono ?_
        rintro e w2 ⟨rfl, k2⟩
        replace q4 := k2.cell q4 (fun f => f)
        replace q7 := k2.cell q7 (fun f => f)
        have K2 := Lib.hid (KF.out.trans k2 (fun _ _ f => f) (fun _ _ f => f) : Kept (fun _ => False) w1 w2)
        clear k2
        cases b0 with
        | false =>
          go_wp2
          go_ret
          exact ⟨by rw [EE.out]; rfl, K1.out.trans K2.out (fun _ _ f => f) (fun _ _ f => f)⟩
        | true =>
          go_wp2_with fail
          refine (N1.out _).mono ?_
          rintro e w3 ⟨rfl, k3⟩
          replace q7 := k3.cell q7 (fun f => f)
          have K3 := Lib.hid (K2.out.trans k3 (fun _ _ f => f) (fun _ _ f => f) : Kept (fun _ => False) w1 w3)
          clear k3
          cases b1 with
          | false =>
            go_wp2
            go_ret
            exact ⟨by rw [EE.out]; rfl, K1.out.trans K3.out (fun _ _ f => f) (fun _ _ f => f)⟩
          | true =>
            go_wp2
            go_ret
            exact ⟨by rw [EE.out]; rfl, K1.out.trans K3.out (fun _ _ f => f) (fun _ _ f => f)⟩
end Go.Proofs.YtelhdbkkigehgaaGreatDoor

/- Printed by port_model.py out of the Model seat. -/
namespace Go.Proofs.YtelhdbkkigehgaaGreatDoor
open Go.RowKit Go.MapKept Go.Instr Go.ChangeMaps

def spanZ : Value := .agg #[.int .i64 0, .int .i64 0, .int .i64 0, .string ⟨#[]⟩, .string ⟨#[]⟩, .int .i64 0, .int .i64 0, .string ⟨#[]⟩]
theorem z37 (w : World) : (zeroValue 35).run Tryz.prog w = .ok spanZ w := by kernel_rfl
theorem z3 (w : World) : (zeroValue 3).run Tryz.prog w = .ok (.int .i64 0) w := by kernel_rfl
theorem u68 : Tryz.prog.underlying 436 = some (.map 440 35) := Tryz.underlying436
theorem u72 : Tryz.prog.underlying 546 = some (.map 440 3) := Tryz.underlying546
theorem cell_map {w : World} {b j c : Nat} {es : Array MapEntry} (h : w.heap[b]? = some (.map es c)) : w.cell? ⟨b, j, none⟩ = none := by simp [World.cell?, h]
theorem set_same {w : World} {b : Nat} (o : Obj) (h : b < w.heap.size) : (setBlock w b o).heap[b]? = some o := by simp [setBlock, h]
theorem keptFF {a b c : World} (h : Kept (fun _ => False) a b) (k : Kept (fun _ => False) b c) : Kept (fun _ => False) a c := h.trans k (fun _ _ f => f) (fun _ _ f => f)
theorem _root_.Go.ChangeMaps.kept_setBlock {S : Nat → Prop} {a w : World} (h : Kept S a w) {b : Nat} (hb : b < a.heap.size → S b) (o : Obj) : Kept S a (setBlock w b o) :=
  ⟨h.os, h.tape, h.output, by simp [setBlock, h.size], fun k hk hn => by
    have : k ≠ b := fun e => hn (e ▸ hb (e ▸ hk))
    rw [← h.block k hk hn]
    simp [setBlock, this.symm]⟩
theorem info_parts {P : Program} {t : TypeId} {z : Option Value} {s b : Nat} (h : (P.info? t).map (fun i => (i.zero, i.size, i.bytes)) = some (z, s, b)) : ∃ i, P.info? t = some i ∧ i.zero = z ∧ i.size = s ∧ i.bytes = b := by
  cases hi : P.info? t with
  | none => rw [hi] at h; simp at h
  | some i =>
    rw [hi] at h
    simp at h
    exact ⟨i, rfl, h.1, h.2.1, h.2.2⟩
theorem inf37 : (Tryz.prog.info? 35).map (fun i => (i.zero, i.size, i.bytes)) = some (some spanZ, 8, 88) := by kernel_rfl
def keyV (k : Int × Int) : Value := .agg #[.int .i64 k.1, .int .i64 k.2]
abbrev KV := (Int × Int) × Value
/-- The entries of a map into which these were laid one by one, the first one numbered n. -/
def entsL : Nat → List KV → List MapEntry
  | _, [] => []
  | n, p :: t => ⟨keyV p.1, p.2, n⟩ :: entsL (n + 1) t
theorem entsL_length : ∀ (n : Nat) (L : List KV), (entsL n L).length = L.length
  | _, [] => rfl
  | n, p :: t => by simp [entsL, entsL_length (n + 1) t]
theorem entsL_at : ∀ (n : Nat) (L : List KV) (i : Nat), (entsL n L)[i]? = (L[i]?).map (fun p => ⟨keyV p.1, p.2, n + i⟩)
  | _, [], i => by simp [entsL]
  | n, p :: t, 0 => by simp [entsL]
  | n, p :: t, i + 1 => by simp [entsL, entsL_at (n + 1) t i]; congr 1; funext q; simp; omega
theorem entsL_append : ∀ (n : Nat) (L T : List KV), entsL n (L ++ T) = entsL n L ++ entsL (n + L.length) T
  | _, [], T => by simp [entsL]
  | n, p :: t, T => by simp [entsL, entsL_append (n + 1) t T]; congr 1; omega
/-- The place of a key, as it is looked for. -/
def idxL (k : Int × Int) : List KV → Option Nat
  | [] => none
  | p :: t => if k = p.1 then some 0 else (idxL k t).map (· + 1)
theorem idxL_some : ∀ {k : Int × Int} {L : List KV} {i : Nat}, idxL k L = some i → ∃ p, L[i]? = some p ∧ p.1 = k
  | k, [], i, h => by simp [idxL] at h
  | k, p :: t, i, h => by
    unfold idxL at h
    split at h
    · rename_i e; cases h; exact ⟨p, rfl, e.symm⟩
    · cases hi : idxL k t with
      | none => simp [hi] at h
      | some j => simp [hi] at h; subst h; simpa using idxL_some hi
theorem idxL_none : ∀ {k : Int × Int} {L : List KV}, idxL k L = none → ∀ p ∈ L, p.1 ≠ k
  | k, [], h, p, hp => by simp at hp
  | k, q :: t, h, p, hp => by
    unfold idxL at h
    split at h
    · cases h
    · rename_i e
      have h2 : idxL k t = none := by cases hi : idxL k t with
        | none => rfl
        | some j => simp [hi] at h
      rcases List.mem_cons.1 hp with rfl | hp
      · exact fun e2 => e e2.symm
      · exact idxL_none h2 p hp
theorem eq_in (a b c d : Int) (w : World) : (Op.equalIn 10000 440 (.agg #[.int .i64 a, .int .i64 b]) (.agg #[.int .i64 c, .int .i64 d])).run Tryz.prog w = .ok (decide (a = c) && decide (b = d)) w := by
  have q : Tryz.prog.stoodInHeld 440 = false := by kernel_rfl
  by_cases h1 : a = c
  · by_cases h2 : b = d
    · simp [go_sem, q, h1, h2]
    · simp [go_sem, q, h1, h2]
  · simp [go_sem, q, h1]
theorem eqK (k l : Int × Int) (w : World) : (Op.equal 440 (keyV k) (keyV l)).run Tryz.prog w = .ok (decide (k = l)) w := by
  obtain ⟨a, b⟩ := k
  obtain ⟨c, d⟩ := l
  have h := eq_in a b c d w
  have e : decide ((a, b) = (c, d)) = (decide (a = c) && decide (b = d)) := by rw [← Bool.decide_and]; simp only [Prod.mk.injEq]
  rw [e]
  exact h
theorem ask_any (k : Int × Int) (w : World) : ∀ (L : List KV) (n i : Nat), (findAsking 440 (keyV k) (entsL n L) i).run Tryz.prog w = .ok ((idxL k L).map (fun j => (i + j, ((L[j]?).map (·.2)).getD undef))) w
  | [], n, i => by simp [entsL, findAsking, idxL]
  | p :: t, n, i => by
    have ih := ask_any k w t (n + 1) (i + 1)
    unfold entsL findAsking idxL
    simp only [Sem.run_bind, eqK, Result.andThen_ok]
    by_cases e : k = p.1
    · simp [e]
    · simp only [e, decide_false, Bool.false_eq_true, if_false, ih]
      cases hi : idxL k t with
      | none => simp
      | some j => simp; omega
theorem findk_any (k : Int × Int) (w : World) (L : List KV) (n : Nat) : (findKey 440 (keyV k) (entsL n L)).run Tryz.prog w = .ok ((idxL k L).map (fun j => (j, ((L[j]?).map (·.2)).getD undef))) w := by
  have hu : Tryz.prog.underlying 440 = some _ := Tryz.underlying440
  cases L with
  | nil =>
    unfold findKey
    simp only [Sem.run_bind, run_underlying hu, Result.andThen_ok]
    rfl
  | cons p t =>
    have h := ask_any k w (p :: t) n 0
    simp only [Nat.zero_add] at h
    rw [← h]
    unfold findKey
    simp only [Sem.run_bind, run_underlying hu, Result.andThen_ok]
    rfl
theorem ck74 (k : Int × Int) (e : Bool) (w : World) : (checkKey e 10000 440 (keyV k)).run Tryz.prog w = .ok () w := by cases e <;> kernel_rfl
theorem stays_any (k : Int × Int) (w : World) : (keyThatStays (keyV k) (keyV k)).run Tryz.prog w = .ok (keyV k) w := by
  have h : sameBits 10000 (keyV k) (keyV k) = true := by
    obtain ⟨a, b⟩ := k
    simp [keyV, sameBits]
  unfold keyThatStays
  simp [h]
/-- The map of these lies in block b. -/
def MapIs (w : World) (b : Nat) (L : List KV) : Prop := w.heap[b]? = some (.map (entsL 0 L).toArray L.length)
theorem MapIs.lt {w : World} {b : Nat} {L : List KV} (h : MapIs w b L) : b < w.heap.size := (Array.getElem?_eq_some_iff.1 h).1
theorem MapIs.kept {S : Nat → Prop} {w w' : World} {b : Nat} {L : List KV} (h : MapIs w b L) (hK : Kept S w w') (hS : ¬ S b) : MapIs w' b L := (hK.block b h.lt hS).trans h
theorem MapIs.not_cell {w : World} {b j : Nat} {L : List KV} (h : MapIs w b L) : w.cell? ⟨b, j, none⟩ = none := cell_map h
/-- A key's entry: what is there, or z behind the last one. -/
def oldL (k : Int × Int) (z : Value) (L : List KV) : Value := ((idxL k L).map (fun j => ((L[j]?).map (·.2)).getD undef)).getD z
def entL (k : Int × Int) (z : Value) (L : List KV) : List KV := if (idxL k L).isSome then L else L ++ [(k, z)]
def stampL (k : Int × Int) (L : List KV) : Nat := (idxL k L).getD L.length
def putL (k : Int × Int) (v : Value) (L : List KV) : List KV := if (idxL k L).isSome then L.set (stampL k L) (k, v) else L ++ [(k, v)]

theorem look68 {w : World} {b : Nat} {L : List KV} (h : MapIs w b L) (k : Int × Int) : (Instr.lookup 436 (.map (some b)) (keyV k) true).run Tryz.prog w = .ok (.tuple #[oldL k spanZ L, .bool (idxL k L).isSome]) w := by
  have f := findk_any k w L 0
  unfold Instr.lookup
  simp only [Sem.run_bind, run_underlying u68, Go.MapKept.run_getObj_map h, Result.andThen_ok, Sem.run_pure, ck74, f]
  unfold oldL
  cases hi : idxL k L with
  | none => simp [spanZ]
  | some j => simp
theorem look72 {w : World} {b : Nat} {L : List KV} (h : MapIs w b L) (k : Int × Int) : (Instr.lookup 546 (.map (some b)) (keyV k) false).run Tryz.prog w = .ok (oldL k (.int .i64 0) L) w := by
  have f := findk_any k w L 0
  unfold Instr.lookup
  simp only [Sem.run_bind, run_underlying u72, Go.MapKept.run_getObj_map h, Result.andThen_ok, Sem.run_pure, ck74, f]
  unfold oldL
  cases hi : idxL k L with
  | none => simp
  | some j => simp
theorem modify_same {L : List KV} {i : Nat} {p : KV} (h : L[i]? = some p) : (entsL 0 L).toArray.modify i (fun e => { e with key := keyV p.1 }) = (entsL 0 L).toArray := by
  apply Array.ext_getElem?
  intro j
  rw [Array.getElem?_modify]
  split
  · rename_i e; subst e; simp [entsL_at, h]
  · rfl
theorem modify_val {L : List KV} {i : Nat} {p : KV} (v : Value) (h : L[i]? = some p) : (entsL 0 L).toArray.modify i (fun e => { e with val := v }) = (entsL 0 (L.set i (p.1, v))).toArray := by
  apply Array.ext_getElem?
  intro j
  rw [Array.getElem?_modify]
  have hl := (List.getElem?_eq_some_iff.1 h).1
  split
  · rename_i e; subst e
    have h2 : L[i] = p := (List.getElem?_eq_some_iff.1 h).2
    simp [entsL_at, hl, h2]
  · rename_i e; simp [entsL_at, e]
theorem modify_both {L : List KV} {i : Nat} {p : KV} (v : Value) (h : L[i]? = some p) : (entsL 0 L).toArray.modify i (fun e => { e with key := keyV p.1, val := v }) = (entsL 0 (L.set i (p.1, v))).toArray := by
  apply Array.ext_getElem?
  intro j
  rw [Array.getElem?_modify]
  have hl := (List.getElem?_eq_some_iff.1 h).1
  split
  · rename_i e; subst e
    have h2 : L[i] = p := (List.getElem?_eq_some_iff.1 h).2
    simp [entsL_at, hl, h2]
  · rename_i e; simp [entsL_at, e]
theorem push_ents (L : List KV) (k : Int × Int) (v : Value) : (entsL 0 L).toArray.push ⟨keyV k, v, L.length⟩ = (entsL 0 (L ++ [(k, v)])).toArray := by
  rw [entsL_append]; simp [entsL]
theorem entry68 {w : World} {b : Nat} {L : List KV} (h : MapIs w b L) (k : Int × Int) : (Instr.mapEntry 436 (.map (some b)) (keyV k)).run Tryz.prog w = .ok (.tuple #[oldL k spanZ L, .int .i64 (stampL k L)]) (setBlock w b (.map (entsL 0 (entL k spanZ L)).toArray (entL k spanZ L).length)) := by
  have f := findk_any k w L 0
  unfold Instr.mapEntry
  simp only [Sem.run_bind, run_underlying u68, Go.MapKept.run_getObj_map h, Result.andThen_ok, ck74, f]
  unfold oldL entL stampL
  cases hi : idxL k L with
  | none =>
    simp only [Option.map_none, Sem.run_bind, z37, Result.andThen_ok, Go.MapKept.run_setObj_map _ h, push_ents]
    simp [goInt, setBlock]
  | some i =>
    obtain ⟨p, hp, rfl⟩ := idxL_some hi
    have e : (entsL 0 L).toArray[i]? = some ⟨keyV p.1, p.2, i⟩ := by simp [entsL_at, hp]
    simp only [Option.map_some, e, Option.getD_some, Sem.run_bind, stays_any, Result.andThen_ok, Go.MapKept.run_setObj_map _ h, modify_same hp]
    simp [goInt, setBlock]
theorem idx_born (L : List KV) (i : Nat) (h : i < L.length) : (entsL 0 L).toArray.findIdx? (fun e => (e.born : Int) == (i : Int)) = some i := by
  rw [List.findIdx?_toArray, List.findIdx?_eq_some_iff_getElem]
  refine ⟨by rw [entsL_length]; exact h, ?_, fun j hj => ?_⟩
  · have := entsL_at 0 L i
    rw [List.getElem?_eq_getElem (by rw [entsL_length]; exact h), List.getElem?_eq_getElem h] at this
    have := Option.some.inj this
    simp [this]
  · have := entsL_at 0 L j
    rw [List.getElem?_eq_getElem (by rw [entsL_length]; omega), List.getElem?_eq_getElem (by omega)] at this
    have := Option.some.inj this
    simp [this]; omega
theorem ent_at (k : Int × Int) (z : Value) (L : List KV) : ∃ p, (entL k z L)[stampL k L]? = some p ∧ p.1 = k := by
  unfold entL stampL
  cases hi : idxL k L with
  | none => exact ⟨(k, z), by simp, rfl⟩
  | some i => obtain ⟨p, hp, e⟩ := idxL_some hi; exact ⟨p, by simpa using hp, e⟩
theorem put_ent (k : Int × Int) (z v : Value) (L : List KV) : (entL k z L).set (stampL k L) (k, v) = putL k v L := by
  unfold entL putL stampL
  cases hi : idxL k L with
  | none => simp
  | some i => simp
theorem putL_length (k : Int × Int) (z v : Value) (L : List KV) : (putL k v L).length = (entL k z L).length := by rw [← put_ent k z v L]; simp
theorem store68 {w : World} {b : Nat} {L : List KV} {k : Int × Int} {z : Value} (h : MapIs w b (entL k z L)) (v : Value) : (Instr.entryStore 436 (.map (some b)) (.int .i64 (stampL k L)) v).run Tryz.prog w = .ok () (setBlock w b (.map (entsL 0 (putL k v L)).toArray (putL k v L).length)) := by
  obtain ⟨p, hp, rfl⟩ := ent_at k z L
  have hl := (List.getElem?_eq_some_iff.1 hp).1
  unfold Instr.entryStore
  have ha : (asInt (.int .i64 (stampL p.1 L))).run Tryz.prog w = .ok (stampL p.1 L : Int) w := rfl
  simp only [Sem.run_bind, Go.MapKept.run_getObj_map h, Result.andThen_ok, ha, idx_born _ _ hl]
  rw [modify_val v hp, Go.MapKept.run_setObj_map _ h, put_ent, putL_length p.1 z v L]
  rfl
theorem put72 {w : World} {b : Nat} {L : List KV} (h : MapIs w b L) (k : Int × Int) (v : Value) : (Instr.mapUpdate 546 (.map (some b)) (keyV k) v).run Tryz.prog w = .ok () (setBlock w b (.map (entsL 0 (putL k v L)).toArray (putL k v L).length)) := by
  have f := findk_any k w L 0
  unfold Instr.mapUpdate
  simp only [Sem.run_bind, run_underlying u72, Go.MapKept.run_getObj_map h, Result.andThen_ok, ck74, f]
  unfold putL stampL
  cases hi : idxL k L with
  | none =>
    simp only [Option.map_none, Go.MapKept.run_setObj_map _ h, push_ents]
    simp [setBlock]
  | some i =>
    obtain ⟨p, hp, rfl⟩ := idxL_some hi
    have e : (entsL 0 L).toArray[i]? = some ⟨keyV p.1, p.2, i⟩ := by simp [entsL_at, hp]
    simp only [Option.map_some, e, Option.getD_some, Sem.run_bind, stays_any, Result.andThen_ok, modify_both v hp, Go.MapKept.run_setObj_map _ h]
    simp [setBlock]
theorem MapIs.set {w : World} {b : Nat} {L : List KV} (hb : b < w.heap.size) : MapIs (setBlock w b (.map (entsL 0 L).toArray L.length)) b L := set_same _ hb
end Go.Proofs.YtelhdbkkigehgaaGreatDoor

/- Printed by port_model.py out of the Model seat. -/
namespace Go.Proofs.YtelhdbkkigehgaaGreatDoor
open Go.RowKit

def lateB (st now : Int) : Bool := decide (60 ≤ now - st)
theorem late_all (st now : Int) (h0 : 0 ≤ st) (h1 : st ≤ 1073741824) (h2 : 0 ≤ now) (h3 : now ≤ 4294967296) (w : World) : Calls Tryz.prog 252 #[.int .i64 st, .int .i64 now] w fun e w' => e = .returned (.bool (lateB st now)) ∧ w = w' := by
  by_cases h : st ≤ now
  · go_enter Tryz.func252, Tryz.ntmps252
    go_wp2
    go_ret
    exact ⟨by unfold lateB; rfl, rfl⟩
  · go_enter Tryz.func252, Tryz.ntmps252
    go_wp2
    go_ret
    have e : lateB st now = false := by unfold lateB; simp; omega
    exact ⟨by rw [e]; rfl, rfl⟩
set_option maxRecDepth 100000 in
theorem expired_all (m : Spn) (now : Int) (h0 : 0 ≤ m.st) (h1 : m.st ≤ 1073741824) (h2 : 0 ≤ now) (h3 : now ≤ 4294967296) (w : World) : Calls Tryz.prog 213 #[aggS m, .int .i64 now] w fun e w' => e = .returned (.bool (lateB m.st now)) ∧ Kept (fun _ => False) w w' := by
  have L := Lib.hid (late_all m.st now h0 h1 h2 h3)
  unfold aggS
  go_enter Tryz.func213, Tryz.ntmps213
  go_wp2_with (go_at_call 252; refine (L.out _).mono ?_; rintro e w4 ⟨rfl, rfl⟩)
  go_ret
  exact ⟨rfl, (Kept.refl _ w).alloc _⟩
end Go.Proofs.YtelhdbkkigehgaaGreatDoor

/- Printed by port_model.py out of the Model seat. -/
namespace Go.Proofs.YtelhdbkkigehgaaGreatDoor
open Go.RowKit Go.MapKept Go.Instr Go.ChangeMaps

def keyOf (m : Spn) : Int × Int := (m.tr, m.id)
def kvM (M : List Spn) : List KV := M.map (fun m => (keyOf m, aggS m))
def kvS (K : List (Int × Int)) : List KV := K.map (fun k => (k, .int .i64 1))
def lookM (k : Int × Int) : List Spn → Option Spn
  | [] => none
  | m :: t => if k = keyOf m then some m else lookM k t
def putM (s : Spn) : List Spn → List Spn
  | [] => [s]
  | m :: t => if keyOf s = keyOf m then s :: t else m :: putM s t
def zeroS : Spn := ⟨0, 0, 0, ⟨#[]⟩, ⟨#[]⟩, 0, 0, ⟨#[]⟩⟩
theorem idxL_cons (k : Int × Int) (p : KV) (t : List KV) : idxL k (p :: t) = if k = p.1 then some 0 else (idxL k t).map (· + 1) := rfl
theorem oldL_cons (k : Int × Int) (z : Value) (p : KV) (t : List KV) : oldL k z (p :: t) = if k = p.1 then p.2 else oldL k z t := by
  unfold oldL
  rw [idxL_cons]
  by_cases e : k = p.1
  · simp [e]
  · simp only [e, if_false]
    cases hi : idxL k t with
    | none => simp
    | some j => simp
theorem putL_cons (k : Int × Int) (v : Value) (p : KV) (t : List KV) : putL k v (p :: t) = if k = p.1 then (k, v) :: t else p :: putL k v t := by
  unfold putL stampL
  rw [idxL_cons]
  by_cases e : k = p.1
  · simp [e]
  · simp only [e, if_false]
    cases hi : idxL k t with
    | none => simp
    | some j => simp
theorem old_kvM (k : Int × Int) : ∀ M, oldL k spanZ (kvM M) = aggS ((lookM k M).getD zeroS)
  | [] => rfl
  | m :: t => by
    rw [kvM, List.map_cons, oldL_cons, lookM]
    by_cases e : k = keyOf m
    · simp [e]
    · simp only [e, if_false]; exact old_kvM k t
theorem idx_kvM (k : Int × Int) : ∀ M, (idxL k (kvM M)).isSome = (lookM k M).isSome
  | [] => rfl
  | m :: t => by
    rw [kvM, List.map_cons, idxL, lookM]
    by_cases e : k = keyOf m
    · simp [e]
    · simp only [e, if_false, Option.isSome_map]; exact idx_kvM k t
theorem put_kvM (s : Spn) : ∀ M, putL (keyOf s) (aggS s) (kvM M) = kvM (putM s M)
  | [] => rfl
  | m :: t => by
    rw [kvM, List.map_cons, putL_cons, putM]
    by_cases e : keyOf s = keyOf m
    · simp [e, kvM]
    · simp only [e, if_false]; rw [kvM, List.map_cons]; congr 1; exact put_kvM s t
def oneN (b : Bool) : Int := if b then 1 else 0
theorem old_kvS (k : Int × Int) : ∀ K : List (Int × Int), oldL k (.int .i64 0) (kvS K) = .int .i64 (oneN (decide (k ∈ K)))
  | [] => rfl
  | a :: t => by
    rw [kvS, List.map_cons, oldL_cons]
    by_cases e : k = a
    · simp [e, oneN]
    · simp only [e, if_false, List.mem_cons, false_or]; exact old_kvS k t
theorem put_kvS (k : Int × Int) : ∀ K : List (Int × Int), k ∉ K → putL k (.int .i64 1) (kvS K) = kvS (K ++ [k])
  | [], _ => rfl
  | a :: t, h => by
    simp only [List.mem_cons, not_or] at h
    rw [kvS, List.map_cons, putL_cons]
    simp only [h.1, if_false, List.cons_append]; rw [kvS, List.map_cons]; congr 1; exact put_kvS k t h.2
/-- What is there bars a span from coming. -/
def hasB (now : Int) (k : Int × Int) (M : List Spn) : Bool := match lookM k M with
  | some o => !lateB o.st now
  | none => false
def skipB (now : Int) (M : List Spn) (K : List (Int × Int)) (s : Spn) : Bool := !chkB s || lateB s.st now || decide (keyOf s ∈ K) || hasB now (keyOf s) M
def takeF (now : Int) : List Spn → List Spn → List (Int × Int) → List Spn × Nat
  | [], M, _ => (M, 0)
  | s :: t, M, K => if skipB now M K s = true then takeF now t M K else ((takeF now t (putM s M) (K ++ [keyOf s])).1, (takeF now t (putM s M) (K ++ [keyOf s])).2 + 1)
theorem take_skip {now : Int} {s : Spn} {t M : List Spn} {K : List (Int × Int)} (h : skipB now M K s = true) : takeF now (s :: t) M K = takeF now t M K := by rw [takeF, if_pos h]
theorem take_put {now : Int} {s : Spn} {t M : List Spn} {K : List (Int × Int)} (h : skipB now M K s = false) : takeF now (s :: t) M K = ((takeF now t (putM s M) (K ++ [keyOf s])).1, (takeF now t (putM s M) (K ++ [keyOf s])).2 + 1) := by rw [takeF, if_neg (by simp [h])]
theorem take_le (now : Int) : ∀ t M K, (takeF now t M K).2 ≤ t.length
  | [], M, K => Nat.le_refl _
  | s :: t, M, K => by
    cases h : skipB now M K s with
    | true => rw [take_skip h]; have := take_le now t M K; simp; omega
    | false => rw [take_put h]; have := take_le now t (putM s M) (K ++ [keyOf s]); simp; omega
theorem mem_putM {s x : Spn} : ∀ {M : List Spn}, x ∈ putM s M → x = s ∨ x ∈ M
  | [], h => by simp [putM] at h; exact .inl h
  | m :: t, h => by
    rw [putM] at h
    split at h
    · rcases List.mem_cons.1 h with h | h
      · exact .inl h
      · exact .inr (List.mem_cons_of_mem _ h)
    · rcases List.mem_cons.1 h with h | h
      · exact .inr (h ▸ List.mem_cons_self)
      · rcases mem_putM h with h | h
        · exact .inl h
        · exact .inr (List.mem_cons_of_mem _ h)
/-- Spans that may be, no two of the same key. -/
structure Held (M : List Spn) : Prop where
  may : ∀ m ∈ M, chkB m = true
  once : (M.map keyOf).Nodup
theorem keys_putM (s : Spn) : ∀ M : List Spn, (putM s M).map keyOf = if keyOf s ∈ M.map keyOf then M.map keyOf else M.map keyOf ++ [keyOf s]
  | [] => rfl
  | m :: t => by
    rw [putM]
    by_cases e : keyOf s = keyOf m
    · simp [e]
    · simp only [e, if_false, List.map_cons, keys_putM s t, List.mem_cons, false_or]
      split <;> rfl
theorem Held.put {M : List Spn} (h : Held M) {s : Spn} (hs : chkB s = true) : Held (putM s M) := by
  refine ⟨fun m hm => ?_, ?_⟩
  · rcases mem_putM hm with rfl | hm
    · exact hs
    · exact h.may m hm
  · rw [keys_putM]
    split
    · exact h.once
    · rename_i hn
      rw [List.nodup_append]
      refine ⟨h.once, by simp, fun a ha b hb => ?_⟩
      simp at hb; subst hb
      exact fun e => hn (e ▸ ha)
theorem Held.nil : Held [] := ⟨fun m hm => (by cases hm), by simp⟩
theorem skip_chk {now : Int} {M : List Spn} {K : List (Int × Int)} {s : Spn} (h : skipB now M K s = false) : chkB s = true := by
  unfold skipB at h; simp at h; exact h.1.1.1
theorem Held.take {now : Int} : ∀ (t : List Spn) {M : List Spn} {K : List (Int × Int)}, Held M → Held (takeF now t M K).1
  | [], M, K, h => h
  | s :: t, M, K, h => by
    cases hs : skipB now M K s with
    | true => rw [take_skip hs]; exact Held.take t h
    | false => rw [take_put hs]; exact Held.take t (h.put (skip_chk hs))
theorem look_mem {k : Int × Int} : ∀ {M : List Spn} {o : Spn}, lookM k M = some o → o ∈ M ∧ keyOf o = k
  | [], o, h => by simp [lookM] at h
  | m :: t, o, h => by
    rw [lookM] at h
    split at h
    · rename_i e; cases h; exact ⟨List.mem_cons_self, e.symm⟩
    · have := look_mem h; exact ⟨List.mem_cons_of_mem _ this.1, this.2⟩
theorem look_of_mem : ∀ {M : List Spn} {s : Spn}, (M.map keyOf).Nodup → s ∈ M → lookM (keyOf s) M = some s
  | m :: t, s, hn, h => by
    rw [List.map_cons, List.nodup_cons] at hn
    rw [lookM]
    rcases List.mem_cons.1 h with rfl | h
    · simp
    · have : keyOf s ≠ keyOf m := fun e => hn.1 (e ▸ List.mem_map_of_mem h)
      rw [if_neg this]
      exact look_of_mem hn.2 h
/-- Of spans that are there, and have not expired, none is taken. -/
theorem take_again {now : Int} {M : List Spn} (h : Held M) : ∀ (l : List Spn) (K : List (Int × Int)), (∀ s ∈ l, s ∈ M ∧ lateB s.st now = false) → takeF now l M K = (M, 0)
  | [], K, _ => rfl
  | s :: t, K, hl => by
    obtain ⟨h1, h2⟩ := hl s List.mem_cons_self
    have hs : skipB now M K s = true := by
      unfold skipB hasB
      rw [look_of_mem h.once h1]
      simp [h2]
    rw [take_skip hs]
    exact take_again h t K (fun x hx => hl x (List.mem_cons_of_mem _ hx))
theorem len_putM (s : Spn) : ∀ M : List Spn, (putM s M).length ≤ M.length + 1
  | [] => Nat.le_refl _
  | m :: t => by
    rw [putM]
    split
    · simp
    · have := len_putM s t; simp; omega
theorem len_take (now : Int) : ∀ (t M : List Spn) (K : List (Int × Int)), (takeF now t M K).1.length ≤ M.length + t.length
  | [], M, K => Nat.le_refl _
  | s :: t, M, K => by
    cases h : skipB now M K s with
    | true => rw [take_skip h]; have := len_take now t M K; simp; omega
    | false => rw [take_put h]; have := len_take now t (putM s M) (K ++ [keyOf s]); have := len_putM s M; simp; omega
end Go.Proofs.YtelhdbkkigehgaaGreatDoor

/- Printed by port_model.py out of the Model seat. -/
namespace Go.Proofs.YtelhdbkkigehgaaGreatDoor
open Go.RowKit Go.MapKept Go.Instr Go.ChangeMaps

set_option maxRecDepth 100000 in
theorem none_not (p po b : Nat) (w : World) (h : w.cell? ⟨p, po, none⟩ = some (.map (some b))) : Calls Tryz.prog 337 #[.pointer (some ⟨p, po, none⟩)] w fun e w' => e = .returned (.bool false) ∧ w = w' := by
  have q68 : ∀ (w : World) (r : Option Nat), (binOp .eql 436 (.map r) (.map none)).run Tryz.prog w = .ok (.bool r.isNone) w := fun w r => run_eql_map_nil w _ _ _ r Tryz.underlying436
  go_enter Tryz.func337, Tryz.ntmps337
  go_wp2
  go_ret
  exact ⟨rfl, rfl⟩

/-- A model's block p, whose map lies in block b and holds these. -/
structure ModelAt (w : World) (p po b : Nat) (M : List Spn) : Prop where
  cell : w.cell? ⟨p, po, none⟩ = some (.map (some b))
  map : MapIs w b (kvM M)
  may : ∀ m ∈ M, chkB m = true
theorem ModelAt.kept {S : Nat → Prop} {w w' : World} {p po b : Nat} {M : List Spn} (h : ModelAt w p po b M) (hK : Kept S w w') (h1 : ¬ S p) (h2 : ¬ S b) : ModelAt w' p po b M := ⟨hK.cell h.cell h1, h.map.kept hK h2, h.may⟩
theorem ModelAt.keptF {w w' : World} {p po b : Nat} {M : List Spn} (h : ModelAt w p po b M) (hK : Kept (fun _ => False) w w') : ModelAt w' p po b M := h.kept hK (fun f => f) (fun f => f)
theorem look_at {w : World} {b : Nat} {M : List Spn} (h : MapIs w b (kvM M)) (x y : Int) : (Instr.lookup 436 (.map (some b)) (.agg #[.int .i64 x, .int .i64 y]) true).run Tryz.prog w = .ok (.tuple #[aggS ((lookM (x, y) M).getD zeroS), .bool (lookM (x, y) M).isSome]) w := by
  have h2 := look68 h (x, y)
  rw [old_kvM, idx_kvM] at h2
  exact h2
theorem seen_at {w : World} {b : Nat} {K : List (Int × Int)} (h : MapIs w b (kvS K)) (x y : Int) : (Instr.lookup 546 (.map (some b)) (.agg #[.int .i64 x, .int .i64 y]) false).run Tryz.prog w = .ok (.int .i64 (oneN (decide ((x, y) ∈ K)))) w := by
  have h2 := look72 h (x, y)
  rw [old_kvS] at h2
  exact h2
theorem drop_step {L : List Spn} {i : Nat} {m : Spn} (h : L[i]? = some m) : m :: L.drop (i + 1) = L.drop i := by
  obtain ⟨hl, e⟩ := List.getElem?_eq_some_iff.1 h
  rw [← e]; exact (List.drop_eq_getElem_cons hl).symm
/-- Texts whose lengths are numbers. -/
def Fits (m : Spn) : Prop := m.se.size ≤ 9223372036854775807 ∧ m.ho.size ≤ 9223372036854775807 ∧ m.no.size ≤ 9223372036854775807

set_option maxHeartbeats 16000000 in
set_option maxRecDepth 100000 in
theorem take_all {w : World} {p po b : Nat} {v : Value} {L M0 : List Spn} (now : Int) (h1 : 0 ≤ now) (h2 : now ≤ 4294967296) (hp : ModelAt w p po b M0) (hM0 : Held M0) (hv : ReadsS w v L) (hl : L.length ≤ 9223372036854775806) (hf : ∀ m ∈ L, Fits m) :
    Calls Tryz.prog 336 #[.pointer (some ⟨p, po, none⟩), v, .int .i64 now] w fun e w' => e = .returned (.int .i64 ((takeF now L M0 []).2 : Nat)) ∧ Kept (fun k => k = b) w w' ∧ ModelAt w' p po b (takeF now L M0 []).1 := by
  obtain ⟨ao, cap, rfl, hv⟩ := hv
  have N := Lib.hid (none_not p po b w hp.cell)
  have HP := Lib.hid hp
  have HV := Lib.hid hv
  have LL := Lib.hid hl
  have FF := Lib.hid hf
  have HM0 := Lib.hid hM0
  have MK : ∀ W : World, (makeMap 546 none).run Tryz.prog W = .ok (.map (some W.heap.size)) (W.alloc (.map #[] 0)) := fun W => run_makeMap 546 W
  have BL0 := Lib.hid hp.map.lt
  obtain ⟨TF, hTF⟩ : ∃ T, takeF now L M0 [] = T := ⟨_, rfl⟩
  have T0 := Lib.hid hTF
  rw [hTF]
  clear hv hp hl hf hM0 hTF
  go_enter Tryz.func336, Tryz.ntmps336
  go_wp2_with (go_at_call 337; refine N.out.mono ?_; rintro e w4 ⟨rfl, rfl⟩)
  obtain ⟨sb, hsb⟩ : ∃ s, w.heap.size = s := ⟨_, rfl⟩
  have SB := Lib.hid (Nat.le_of_eq hsb)
  have NBS := Lib.hid (show ¬ sb = b from fun e => by have := BL0.out; omega)
  have SBE := Lib.hid hsb
  rw [hsb]
  clear hsb
  go_loopg [7, 19] L.length (fun gh s t wr => ∃ (i n : Nat) (M : List Spn) (KK : List (Int × Int)), i + gh = L.length ∧ t = .int .i64 i ∧ s = .int .i64 n ∧ n ≤ i ∧ Held M ∧ Kept (fun k => k = b) w wr ∧ ModelAt wr p po b M ∧ MapIs wr sb (kvS KK) ∧ (takeF now (L.drop i) M KK).1 = TF.1 ∧ (n + (takeF now (L.drop i) M KK).2 = TF.2))
  case atStart =>
    have e0 : MapIs (w.alloc (.map #[] 0)) sb (kvS []) := by rw [← SBE.out]; exact heap_alloc_new w _
    exact ⟨0, 0, M0, [], by omega, rfl, rfl, Nat.le_refl _, HM0.out, (Kept.refl _ w).alloc _, HP.out.keptF ((Kept.refl _ w).alloc _), e0, by rw [List.drop_zero, T0.out], by rw [List.drop_zero, T0.out]; omega⟩
  case round =>
    obtain ⟨i, n, M, KK, ji, rfl, rfl, ni, hM, kf, hmod, hs, t1, t2⟩ := hrel
    have JI := Lib.hid ji; have NI := Lib.hid ni; have HM := Lib.hid hM; have KF := Lib.hid kf; have TI := Lib.hid (And.intro t1 t2)
    have p0 := hmod.cell
    have hb := hmod.map
    clear ji ni hM kf t1 t2 hmod
    by_cases hlt : i < L.length
    · obtain ⟨m, hm⟩ : ∃ m, L[i]? = some m := ⟨_, List.getElem?_eq_getElem hlt⟩
      have HMM := Lib.hid hm
      have fm := FF.out m (List.mem_of_getElem? hm)
      have C := Lib.hid (check_all m fm.1 fm.2.1 fm.2.2)
      obtain ⟨bc, hbc⟩ : ∃ c, chkB m = c := ⟨_, rfl⟩
      have BC := Lib.hid hbc
      rw [hbc] at C
      obtain ⟨g, og, rfl, hcs⟩ : ∃ g o, ao = some ⟨g, o, none⟩ ∧ ∀ j u, (cellsS L)[j]? = some u → w.cell? ⟨g, o + j, none⟩ = some u := by
        rcases HV.out with h0 | ⟨g, o, h, hc⟩
        · rw [h0] at hlt; simp at hlt
        · exact ⟨g, o, h, hc⟩
      have ngb : ¬ g = b := fun e => by
        have h := HP.out.map.not_cell (j := og + i * 8)
        rw [← e, (ReadsS.at hcs hm).1] at h; cases h
      obtain ⟨q0, q1, q2, q3, q4, q5, q6, q7⟩ := ReadsS.at hcs hm
      replace q0 := KF.out.cell q0 ngb
      replace q1 := KF.out.cell q1 ngb
      replace q2 := KF.out.cell q2 ngb
      replace q3 := KF.out.cell q3 ngb
      replace q4 := KF.out.cell q4 ngb
      replace q5 := KF.out.cell q5 ngb
      replace q6 := KF.out.cell q6 ngb
      replace q7 := KF.out.cell q7 ngb
      have i1 : (0 : Int) ≤ (i : Int) := by omega
      have i2 : (i : Int) < (L.length : Int) := by omega
      have i5 : (i : Int) ≤ 9223372036854775805 := by have := LL.out; omega
      obtain ⟨o, ho⟩ : ∃ o, (lookM (m.tr, m.id) M).getD zeroS = o := ⟨_, rfl⟩
      obtain ⟨f, hof⟩ : ∃ f, (lookM (m.tr, m.id) M).isSome = f := ⟨_, rfl⟩
      have LO := Lib.hid ho
      have LF := Lib.hid hof
      clear hcs ngb hbc ho hof hm fm
      go_wp2
      obtain ⟨W, hW⟩ : ∃ W, (wr.alloc (.cells #[.int .i64 m.tr, .int .i64 m.id, .int .i64 m.pa, .string m.se, .string m.ho, .int .i64 m.st, .int .i64 m.du, .string m.no] 35)).alloc (.cells #[.int .i64 m.tr, .int .i64 m.id] 440) = W := ⟨_, rfl⟩
      obtain ⟨ns, hns⟩ : ∃ ns, wr.heap.size = ns := ⟨_, rfl⟩
      obtain ⟨nk, hnk⟩ : ∃ nk, ns + 1 = nk := ⟨_, rfl⟩
      have kA : Kept (fun _ => False) wr (wr.alloc (.cells #[.int .i64 m.tr, .int .i64 m.id, .int .i64 m.pa, .string m.se, .string m.ho, .int .i64 m.st, .int .i64 m.du, .string m.no] 35)) := (Kept.refl _ wr).alloc _
      have kB : Kept (fun _ => False) (wr.alloc (.cells #[.int .i64 m.tr, .int .i64 m.id, .int .i64 m.pa, .string m.se, .string m.ho, .int .i64 m.st, .int .i64 m.du, .string m.no] 35)) W := by rw [← hW]; exact (Kept.refl _ _).alloc _
      have k0 : W.cell? ⟨nk, 0, none⟩ = some (.int .i64 m.tr) := by rw [← hW, ← hnk, ← hns]; simp
      have k1 : W.cell? ⟨nk, 1, none⟩ = some (.int .i64 m.id) := by rw [← hW, ← hnk, ← hns]; simp
      have sm : SpanAt W ns m := by rw [← hns]; exact SpanAt.new.keptF kB
      have kC := keptFF kA kB
      replace p0 := kC.cell p0 (fun f => f)
      replace hb := hb.kept kC (fun f => f)
      replace hs := hs.kept kC (fun f => f)
      have KC := Lib.hid kC
      rw [hW, hns, hnk]
      clear hW kA kB kC q0 q1 q2 q3 q4 q5 q6 q7 hns hnk
      refine wp_region_held_drew (S := (fun w' => w'.cell? ⟨p, po, none⟩ = some (.map (some b)) ∧ w'.cell? ⟨nk, 0, none⟩ = some (.int .i64 m.tr) ∧ w'.cell? ⟨nk, 1, none⟩ = some (.int .i64 m.id) ∧ MapIs w' b (kvM M))) (by kernel_rfl) ?_ (fun hHeld => ?_)
      · exact ⟨p0, k0, k1, hb⟩
      refine wpAnyH_take (i := 0) (v := ?_) opAt0 (by kernel_rfl) (by kernel_rfl) (by kernel_rfl) (fun _ _ _ h => h) (Or.inl ⟨by rfl, ?_⟩) hHeld ?_
      case refine_2 => (intro w hSw; (try dsimp only at hSw); go_simp; all_goals (with_reducible rfl))
      (try simp only [Act.put]); (try simp only [List.setIfInBounds_toArray]); (try simp only [List.set_cons_succ]); (try simp only [List.set_cons_zero])
      refine wpAnyH_take (i := 1) (v := ?_) opAt1 (by kernel_rfl) (by kernel_rfl) (by kernel_rfl) (fun _ _ _ h => h) (Or.inl ⟨by rfl, ?_⟩) hHeld ?_
      case refine_2 => (intro w hSw; (try dsimp only at hSw); go_simp; all_goals (with_reducible rfl))
      (try simp only [Act.put]); (try simp only [List.setIfInBounds_toArray]); (try simp only [List.set_cons_succ]); (try simp only [List.set_cons_zero])
      refine wpAnyH_take (i := 2) (v := ?_) opAt2 (by kernel_rfl) (by kernel_rfl) (by kernel_rfl) (fun _ _ _ h => h) (Or.inl ⟨by rfl, ?_⟩) hHeld ?_
      case refine_2 => (intro w hSw; (try dsimp only at hSw); go_simp; all_goals (with_reducible rfl))
      (try simp only [Act.put]); (try simp only [List.setIfInBounds_toArray]); (try simp only [List.set_cons_succ]); (try simp only [List.set_cons_zero])
      refine wpAnyH_take (i := 3) (v := ?_) opAt3 (by kernel_rfl) (by kernel_rfl) (by kernel_rfl) (fun _ _ _ h => h) (Or.inl ⟨by rfl, ?_⟩) hHeld ?_
      case refine_2 => (intro w hSw; (try dsimp only at hSw); go_simp; all_goals (with_reducible rfl))
      (try simp only [Act.put]); (try simp only [List.setIfInBounds_toArray]); (try simp only [List.set_cons_succ]); (try simp only [List.set_cons_zero])
      refine wpAnyH_take (i := 4) (v := ?_) opAt4 (by kernel_rfl) (by kernel_rfl) (by kernel_rfl) (fun _ _ _ h => h) (Or.inl ⟨by rfl, ?_⟩) hHeld ?_
      case refine_2 => (intro w hSw; (try dsimp only at hSw); go_simp; all_goals (with_reducible rfl))
      (try simp only [Act.put]); (try simp only [List.setIfInBounds_toArray]); (try simp only [List.set_cons_succ]); (try simp only [List.set_cons_zero])
      refine wpAnyH_take (i := 5) (v := ?_) opAt5 (by kernel_rfl) (by kernel_rfl) (by kernel_rfl) (fun _ _ _ h => h) (Or.inl ⟨by rfl, ?_⟩) hHeld ?_
      case refine_2 => (intro w hSw; (try dsimp only at hSw); have LK := look_at hSw.2.2.2 m.tr m.id; rw [LO.out, LF.out] at LK; unfold aggS at LK; have q0 := hSw.1; have q1 := hSw.2.1; have q2 := hSw.2.2.1; clear hSw; go_simp; all_goals (with_reducible rfl))
      (try simp only [Act.put]); (try simp only [List.setIfInBounds_toArray]); (try simp only [List.set_cons_succ]); (try simp only [List.set_cons_zero])
      refine wpAnyH_take (i := 6) (v := ?_) opAt6 (by kernel_rfl) (by kernel_rfl) (by kernel_rfl) (fun _ _ _ h => h) (Or.inl ⟨by rfl, ?_⟩) hHeld ?_
      case refine_2 => (intro w hSw; (try dsimp only at hSw); go_simp; all_goals (with_reducible rfl))
      (try simp only [Act.put]); (try simp only [List.setIfInBounds_toArray]); (try simp only [List.set_cons_succ]); (try simp only [List.set_cons_zero])
      refine wpAnyH_take (i := 7) (v := ?_) opAt7 (by kernel_rfl) (by kernel_rfl) (by kernel_rfl) (fun _ _ _ h => h) (Or.inl ⟨by rfl, ?_⟩) hHeld ?_
      case refine_2 => (intro w hSw; (try dsimp only at hSw); go_simp; all_goals (with_reducible rfl))
      (try simp only [Act.put]); (try simp only [List.setIfInBounds_toArray]); (try simp only [List.set_cons_succ]); (try simp only [List.set_cons_zero])
      refine wpAnyH_take (i := 8) (v := ?_) opAt8 (by kernel_rfl) (by kernel_rfl) (by kernel_rfl) (fun _ _ _ h => h) (Or.inl ⟨by rfl, ?_⟩) hHeld ?_
      case refine_2 => (intro w hSw; (try dsimp only at hSw); go_simp; all_goals (with_reducible rfl))
      (try simp only [Act.put]); (try simp only [List.setIfInBounds_toArray]); (try simp only [List.set_cons_succ]); (try simp only [List.set_cons_zero])
      refine wpAnyH_ready (rs := [9]) (by kernel_rfl) (by simp) ?_
      refine AllReadyH.cons opAt9 (fun K hK => ?_) AllReadyH.nil
      go_simp
      skip
      refine hK.out _ _ ?_ (fun hHeld => ?_)
      · exact ⟨(((Kept.refl (fun _ => False) W).alloc _).drew).cell p0 (fun f => f), (((Kept.refl (fun _ => False) W).alloc _).drew).cell k0 (fun f => f), (((Kept.refl (fun _ => False) W).alloc _).drew).cell k1 (fun f => f), hb.kept (((Kept.refl (fun _ => False) W).alloc _).drew) (fun f => f)⟩
      clear hK K
      (try simp only [Act.put]); (try simp only [List.setIfInBounds_toArray]); (try simp only [List.set_cons_succ]); (try simp only [List.set_cons_zero])
      refine wpAnyH_ready (rs := [10]) (by kernel_rfl) (by simp) ?_
      refine AllReadyH.cons opAt10 (fun K hK => ?_) AllReadyH.nil
      go_simp
      skip
      refine hK.out _ _ ?_ (fun hHeld => ?_)
      · exact ⟨(((Kept.refl (fun _ => False) W).alloc _).drew).cell p0 (fun f => f), (((Kept.refl (fun _ => False) W).alloc _).drew).cell k0 (fun f => f), (((Kept.refl (fun _ => False) W).alloc _).drew).cell k1 (fun f => f), hb.kept (((Kept.refl (fun _ => False) W).alloc _).drew) (fun f => f)⟩
      clear hK K
      (try simp only [Act.put]); (try simp only [List.setIfInBounds_toArray]); (try simp only [List.set_cons_succ]); (try simp only [List.set_cons_zero])
      refine wpAnyH_take (i := 11) (v := ?_) opAt11 (by kernel_rfl) (by kernel_rfl) (by kernel_rfl) (fun _ _ _ h => h) (Or.inl ⟨by rfl, ?_⟩) hHeld ?_
      case refine_2 => (intro w hSw; (try dsimp only at hSw); go_simp; all_goals (with_reducible rfl))
      (try simp only [Act.put]); (try simp only [List.setIfInBounds_toArray]); (try simp only [List.set_cons_succ]); (try simp only [List.set_cons_zero])
      refine wpAnyH_done (by kernel_rfl) ?_ _
      obtain ⟨W5, hW5⟩ : ∃ W5, (W.alloc (.cells #[.int .i64 o.tr, .int .i64 o.id, .int .i64 o.pa, .string o.se, .string o.ho, .int .i64 o.st, .int .i64 o.du, .string o.no] 35)).drew = W5 := ⟨_, rfl⟩
      have k5 : Kept (fun _ => False) W W5 := by rw [← hW5]; exact ((Kept.refl _ W).alloc _).drew
      obtain ⟨no, hno⟩ : ∃ no, W.heap.size = no := ⟨_, rfl⟩
      have so : SpanAt W5 no o := by rw [← hW5, ← hno]; exact (SpanAt.new (w := W) (m := o)).keptF ((Kept.refl _ _).drew)
      rw [hW5, hno]
      replace p0 := k5.cell p0 (fun f => f)
      replace k0 := k5.cell k0 (fun f => f)
      replace k1 := k5.cell k1 (fun f => f)
      replace sm := sm.keptF k5
      replace hb := hb.kept k5 (fun f => f)
      replace hs := hs.kept k5 (fun f => f)
      have K5 := Lib.hid (keptFF KC.out k5)
      clear hW5 k5 hno
      have s0 := sm 0 _ rfl; have s1 := sm 1 _ rfl; have s2 := sm 2 _ rfl; have s3 := sm 3 _ rfl; have s4 := sm 4 _ rfl; have s5 := sm 5 _ rfl; have s6 := sm 6 _ rfl; have s7 := sm 7 _ rfl
      go_wp2_with fail
      refine (C.out _).mono ?_
      rintro e w6 ⟨rfl, k6⟩
      replace p0 := k6.cell p0 (fun f => f)
      replace k0 := k6.cell k0 (fun f => f)
      replace k1 := k6.cell k1 (fun f => f)
      replace sm := sm.keptF k6
      replace so := so.keptF k6
      replace hb := hb.kept k6 (fun f => f)
      replace hs := hs.kept k6 (fun f => f)
      have K6 := Lib.hid (keptFF K5.out k6)
      clear k6
      clear s0 s1 s2 s3 s4 s5 s6 s7
      cases bc with
      | false =>
        go_wp2
        go_roundg (L.length - i - 1)
        case measure => have := JI.out; omega
        case rel =>
          have hsk : skipB now M KK m = true := by unfold skipB; rw [BC.out]; rfl
          have x1 := LL.out; have x2 := JI.out; have x3 := NI.out; have TJ := TI.out
          rw [← drop_step HMM.out, take_skip hsk] at TJ
          exact ⟨i + 1, n, M, KK, by have := JI.out; omega, by go_num, rfl, Nat.le_succ_of_le NI.out, HM.out, (KF.out.trans K6.out (fun _ _ h => h) (fun _ _ f => f.elim) : Kept (fun k => k = b) w w6), ⟨p0, hb, HM.out.may⟩, hs, TJ.1, TJ.2⟩
      | true =>
        have hnum := (chk_num BC.out).2.2.2.1
        have E := Lib.hid (expired_all m now hnum.1 hnum.2 h1 h2)
        obtain ⟨be, hbe⟩ : ∃ c, lateB m.st now = c := ⟨_, rfl⟩
        have BE := Lib.hid hbe
        rw [hbe] at E
        clear hbe hnum
        have s0 := sm 0 _ rfl; have s1 := sm 1 _ rfl; have s2 := sm 2 _ rfl; have s3 := sm 3 _ rfl; have s4 := sm 4 _ rfl; have s5 := sm 5 _ rfl; have s6 := sm 6 _ rfl; have s7 := sm 7 _ rfl
        go_wp2_with fail
        refine (E.out _).mono ?_
        rintro e w7 ⟨rfl, k7⟩
        replace p0 := k7.cell p0 (fun f => f)
        replace k0 := k7.cell k0 (fun f => f)
        replace k1 := k7.cell k1 (fun f => f)
        replace sm := sm.keptF k7
        replace so := so.keptF k7
        replace hb := hb.kept k7 (fun f => f)
        replace hs := hs.kept k7 (fun f => f)
        have K7 := Lib.hid (keptFF K6.out k7)
        clear k7
        clear s0 s1 s2 s3 s4 s5 s6 s7
        cases be with
        | true =>
          go_wp2
          go_roundg (L.length - i - 1)
          case measure => have := JI.out; omega
          case rel =>
            have hsk : skipB now M KK m = true := by unfold skipB; rw [BE.out]; simp
            have x1 := LL.out; have x2 := JI.out; have x3 := NI.out; have TJ := TI.out
            rw [← drop_step HMM.out, take_skip hsk] at TJ
            exact ⟨i + 1, n, M, KK, by have := JI.out; omega, by go_num, rfl, Nat.le_succ_of_le NI.out, HM.out, (KF.out.trans K7.out (fun _ _ h => h) (fun _ _ f => f.elim) : Kept (fun k => k = b) w w7), ⟨p0, hb, HM.out.may⟩, hs, TJ.1, TJ.2⟩
        | false =>
          obtain ⟨bk, hbk⟩ : ∃ c, decide (keyOf m ∈ KK) = c := ⟨_, rfl⟩
          have SE := seen_at hs m.tr m.id
          have BK := Lib.hid hbk
          unfold keyOf at hbk
          rw [hbk] at SE
          clear hbk
          cases bk with
          | true =>
            have SE2 : (Instr.lookup 546 (.map (some sb)) (.agg #[.int .i64 m.tr, .int .i64 m.id]) false).run Tryz.prog w7 = .ok (.int .i64 1) w7 := SE
            clear SE
            go_wp2
            clear SE2
            go_roundg (L.length - i - 1)
            case measure => have := JI.out; omega
            case rel =>
              have hsk : skipB now M KK m = true := by unfold skipB; rw [BK.out]; simp
              have x1 := LL.out; have x2 := JI.out; have x3 := NI.out; have TJ := TI.out
              rw [← drop_step HMM.out, take_skip hsk] at TJ
              exact ⟨i + 1, n, M, KK, by have := JI.out; omega, by go_num, rfl, Nat.le_succ_of_le NI.out, HM.out, (KF.out.trans K7.out (fun _ _ h => h) (fun _ _ f => f.elim) : Kept (fun k => k = b) w w7), ⟨p0, hb, HM.out.may⟩, hs, TJ.1, TJ.2⟩
          | false =>
            have SE2 : (Instr.lookup 546 (.map (some sb)) (.agg #[.int .i64 m.tr, .int .i64 m.id]) false).run Tryz.prog w7 = .ok (.int .i64 0) w7 := SE
            clear SE
            cases f with
            | false =>
              go_wp2
              clear SE2
              have hno : lookM (keyOf m) M = none := by cases hq : lookM (keyOf m) M with | none => rfl | some z => (have := LF.out; unfold keyOf at hq; rw [hq] at this; cases this)
              have HNO := Lib.hid hno
              clear hno
              have np : ¬ p = b := fun e => by have h := hb.not_cell (j := po); rw [← e, p0] at h; cases h
              have nnk : ¬ nk = b := fun e => by have h := hb.not_cell (j := 0); rw [← e, k0] at h; cases h
              have nns : ¬ ns = b := fun e => by have h := hb.not_cell (j := 0); rw [← e, sm 0 _ rfl] at h; cases h
              have np2 : ¬ p = sb := fun e => by have h := hs.not_cell (j := po); rw [← e, p0] at h; cases h
              have nnk2 : ¬ nk = sb := fun e => by have h := hs.not_cell (j := 0); rw [← e, k0] at h; cases h
              have nns2 : ¬ ns = sb := fun e => by have h := hs.not_cell (j := 0); rw [← e, sm 0 _ rfl] at h; cases h
              obtain ⟨A1, hA1⟩ : ∃ A, setBlock w7.drew b (.map (entsL 0 (entL (keyOf m) spanZ (kvM M))).toArray (entL (keyOf m) spanZ (kvM M)).length) = A := ⟨_, rfl⟩
              obtain ⟨A2, hA2⟩ : ∃ A, setBlock A1 b (.map (entsL 0 (putL (keyOf m) (aggS m) (kvM M))).toArray (putL (keyOf m) (aggS m) (kvM M)).length) = A := ⟨_, rfl⟩
              obtain ⟨A3, hA3⟩ : ∃ A, setBlock A2 sb (.map (entsL 0 (putL (keyOf m) (.int .i64 1) (kvS KK))).toArray (putL (keyOf m) (.int .i64 1) (kvS KK)).length) = A := ⟨_, rfl⟩
              have BL := hb.lt
              have hb' : MapIs w7.drew b (kvM M) := hb
              have b1 : MapIs A1 b (entL (keyOf m) spanZ (kvM M)) := by rw [← hA1]; exact MapIs.set BL
              have b2 : MapIs A2 b (putL (keyOf m) (aggS m) (kvM M)) := by rw [← hA2]; exact MapIs.set b1.lt
              have KE1 : Kept (fun k => k = b) w7.drew A1 := by rw [← hA1]; exact kept_setBlock (S := fun k => k = _) (Kept.refl _ _) (fun _ => rfl) _
              have KE2 : Kept (fun k => k = b) A1 A2 := by rw [← hA2]; exact kept_setBlock (S := fun k => k = _) (Kept.refl _ _) (fun _ => rfl) _
              have KE3 : Kept (fun k => k = sb) A2 A3 := by rw [← hA3]; exact kept_setBlock (S := fun k => k = _) (Kept.refl _ _) (fun _ => rfl) _
              have c0 : MapIs w7.drew sb (kvS KK) := hs
              have c2 : MapIs A2 sb (kvS KK) := (c0.kept KE1 NBS.out).kept KE2 NBS.out
              have c3 : MapIs A3 sb (putL (keyOf m) (.int .i64 1) (kvS KK)) := by rw [← hA3]; exact MapIs.set c2.lt
              have b3 : MapIs A3 b (putL (keyOf m) (aggS m) (kvM M)) := b2.kept KE3 (fun e => NBS.out e.symm)
              have EQ1 := entry68 hb' (keyOf m)
              have EQ2 := store68 b1 (aggS m)
              have EQ3 := put72 c2 (keyOf m) (.int .i64 1)
              rw [hA1] at EQ1; rw [hA2] at EQ2; rw [hA3] at EQ3
              obtain ⟨ov, hov⟩ : ∃ ov, oldL (keyOf m) spanZ (kvM M) = ov := ⟨_, rfl⟩
              obtain ⟨st, hst⟩ : ∃ st, stampL (keyOf m) (kvM M) = st := ⟨_, rfl⟩
              rw [hov, hst] at EQ1; rw [hst] at EQ2
              unfold keyV keyOf at EQ1 EQ3; unfold aggS at EQ2
              rw [put_kvM] at b3
              have B3 := Lib.hid b3; have C3 := Lib.hid c3
              clear hA1 hA2 hA3 b1 b2 b3 c0 c2 c3 hb hb' hs hov hst BL
              refine wp_region_held_drew (S := (fun w' => w'.cell? ⟨p, po, none⟩ = some (.map (some b)) ∧ w'.cell? ⟨nk, 0, none⟩ = some (.int .i64 m.tr) ∧ w'.cell? ⟨nk, 1, none⟩ = some (.int .i64 m.id) ∧ SpanAt w' ns m)) (by kernel_rfl) ?_ (fun hHeld => ?_)
              · exact ⟨p0, k0, k1, sm⟩
              refine wpAnyH_take (i := 0) (v := ?_) opAt0 (by kernel_rfl) (by kernel_rfl) (by kernel_rfl) (fun _ _ _ h => h) (Or.inl ⟨by rfl, ?_⟩) hHeld ?_
              case refine_2 => (intro w hSw; (try dsimp only at hSw); go_simp; all_goals (with_reducible rfl))
              (try simp only [Act.put]); (try simp only [List.setIfInBounds_toArray]); (try simp only [List.set_cons_succ]); (try simp only [List.set_cons_zero])
              refine wpAnyH_take (i := 1) (v := ?_) opAt1 (by kernel_rfl) (by kernel_rfl) (by kernel_rfl) (fun _ _ _ h => h) (Or.inl ⟨by rfl, ?_⟩) hHeld ?_
              case refine_2 => (intro w hSw; (try dsimp only at hSw); go_simp; all_goals (with_reducible rfl))
              (try simp only [Act.put]); (try simp only [List.setIfInBounds_toArray]); (try simp only [List.set_cons_succ]); (try simp only [List.set_cons_zero])
              refine wpAnyH_take (i := 2) (v := ?_) opAt2 (by kernel_rfl) (by kernel_rfl) (by kernel_rfl) (fun _ _ _ h => h) (Or.inl ⟨by rfl, ?_⟩) hHeld ?_
              case refine_2 => (intro w hSw; (try dsimp only at hSw); go_simp; all_goals (with_reducible rfl))
              (try simp only [Act.put]); (try simp only [List.setIfInBounds_toArray]); (try simp only [List.set_cons_succ]); (try simp only [List.set_cons_zero])
              refine wpAnyH_take (i := 3) (v := ?_) opAt3 (by kernel_rfl) (by kernel_rfl) (by kernel_rfl) (fun _ _ _ h => h) (Or.inl ⟨by rfl, ?_⟩) hHeld ?_
              case refine_2 => (intro w hSw; (try dsimp only at hSw); go_simp; all_goals (with_reducible rfl))
              (try simp only [Act.put]); (try simp only [List.setIfInBounds_toArray]); (try simp only [List.set_cons_succ]); (try simp only [List.set_cons_zero])
              refine wpAnyH_take (i := 4) (v := ?_) opAt4 (by kernel_rfl) (by kernel_rfl) (by kernel_rfl) (fun _ _ _ h => h) (Or.inl ⟨by rfl, ?_⟩) hHeld ?_
              case refine_2 => (intro w hSw; (try dsimp only at hSw); go_simp; all_goals (with_reducible rfl))
              (try simp only [Act.put]); (try simp only [List.setIfInBounds_toArray]); (try simp only [List.set_cons_succ]); (try simp only [List.set_cons_zero])
              refine wpAnyH_take (i := 5) (v := ?_) opAt5 (by kernel_rfl) (by kernel_rfl) (by kernel_rfl) (fun _ _ _ h => h) (Or.inl ⟨by rfl, ?_⟩) hHeld ?_
              case refine_2 => (intro w hSw; (try dsimp only at hSw); go_simp; all_goals (with_reducible rfl))
              (try simp only [Act.put]); (try simp only [List.setIfInBounds_toArray]); (try simp only [List.set_cons_succ]); (try simp only [List.set_cons_zero])
              refine wpAnyH_take (i := 6) (v := ?_) opAt6 (by kernel_rfl) (by kernel_rfl) (by kernel_rfl) (fun _ _ _ h => h) (Or.inl ⟨by rfl, ?_⟩) hHeld ?_
              case refine_2 => (intro w hSw; (try dsimp only at hSw); go_simp; all_goals (with_reducible rfl))
              (try simp only [Act.put]); (try simp only [List.setIfInBounds_toArray]); (try simp only [List.set_cons_succ]); (try simp only [List.set_cons_zero])
              refine wpAnyH_take (i := 7) (v := ?_) opAt7 (by kernel_rfl) (by kernel_rfl) (by kernel_rfl) (fun _ _ _ h => h) (Or.inl ⟨by rfl, ?_⟩) hHeld ?_
              case refine_2 => (intro w hSw; (try dsimp only at hSw); have s0 := hSw.2.2.2 0 _ rfl; have s1 := hSw.2.2.2 1 _ rfl; have s2 := hSw.2.2.2 2 _ rfl; have s3 := hSw.2.2.2 3 _ rfl; have s4 := hSw.2.2.2 4 _ rfl; have s5 := hSw.2.2.2 5 _ rfl; have s6 := hSw.2.2.2 6 _ rfl; have s7 := hSw.2.2.2 7 _ rfl; clear hSw; go_simp; all_goals (with_reducible rfl))
              (try simp only [Act.put]); (try simp only [List.setIfInBounds_toArray]); (try simp only [List.set_cons_succ]); (try simp only [List.set_cons_zero])
              refine wpAnyH_ready (rs := [8]) (by kernel_rfl) (by simp) ?_
              refine AllReadyH.cons opAt8 (fun K hK => ?_) AllReadyH.nil
              go_simp
              skip
              refine hK.out _ _ ?_ (fun hHeld => ?_)
              · exact ⟨KE1.cell hHeld.1 np, KE1.cell hHeld.2.1 nnk, KE1.cell hHeld.2.2.1 nnk, hHeld.2.2.2.kept KE1 nns⟩
              clear hK K
              (try simp only [Act.put]); (try simp only [List.setIfInBounds_toArray]); (try simp only [List.set_cons_succ]); (try simp only [List.set_cons_zero])
              refine wpAnyH_take (i := 9) (v := ?_) opAt9 (by kernel_rfl) (by kernel_rfl) (by kernel_rfl) (fun _ _ _ h => h) (Or.inl ⟨by rfl, ?_⟩) hHeld ?_
              case refine_2 => (intro w hSw; (try dsimp only at hSw); go_simp; all_goals (with_reducible rfl))
              (try simp only [Act.put]); (try simp only [List.setIfInBounds_toArray]); (try simp only [List.set_cons_succ]); (try simp only [List.set_cons_zero])
              refine wpAnyH_ready (rs := [10]) (by kernel_rfl) (by simp) ?_
              refine AllReadyH.cons opAt10 (fun K hK => ?_) AllReadyH.nil
              go_simp
              skip
              refine hK.out _ _ ?_ (fun hHeld => ?_)
              · exact ⟨KE2.cell hHeld.1 np, KE2.cell hHeld.2.1 nnk, KE2.cell hHeld.2.2.1 nnk, hHeld.2.2.2.kept KE2 nns⟩
              clear hK K
              (try simp only [Act.put]); (try simp only [List.setIfInBounds_toArray]); (try simp only [List.set_cons_succ]); (try simp only [List.set_cons_zero])
              refine wpAnyH_ready (rs := [11]) (by kernel_rfl) (by simp) ?_
              refine AllReadyH.cons opAt11 (fun K hK => ?_) AllReadyH.nil
              go_simp
              skip
              refine hK.out _ _ ?_ (fun hHeld => ?_)
              · exact ⟨KE3.cell hHeld.1 np2, KE3.cell hHeld.2.1 nnk2, KE3.cell hHeld.2.2.1 nnk2, hHeld.2.2.2.kept KE3 nns2⟩
              clear hK K
              (try simp only [Act.put]); (try simp only [List.setIfInBounds_toArray]); (try simp only [List.set_cons_succ]); (try simp only [List.set_cons_zero])
              refine wpAnyH_done (by kernel_rfl) ?_ _
              have kf : Kept (fun k => k = b) w A3 := (KF.out.trans (((K7.out.drew).mono (fun _ _ f => f.elim) : Kept (fun k => k = b) wr _).trans (KE1.trans KE2 (fun _ _ h => h) (fun _ _ h => h)) (fun _ _ h => h) (fun _ _ h => h)) (fun _ _ h => h) (fun _ _ h => h)).trans KE3 (fun _ _ h => h) (fun i hi h => absurd hi (by rw [h]; exact Nat.not_lt.2 SB.out))
              have pf : A3.cell? ⟨p, po, none⟩ = some (.map (some b)) := KE3.cell (KE2.cell (KE1.cell p0 np) np) np2
              have KG := Lib.hid kf
              have PF := Lib.hid pf
              clear kf pf EQ1 EQ2 EQ3
              have i3 : (0 : Int) ≤ (n : Int) := by omega
              have i4 : (n : Int) ≤ 9223372036854775806 := by have := NI.out; have := JI.out; have := LL.out; omega
              go_wp2
              go_roundg (L.length - i - 1)
              case measure => have := JI.out; omega
              case rel =>
                have hsk : skipB now M KK m = false := by unfold skipB; rw [BC.out, BE.out, BK.out]; unfold hasB; rw [HNO.out]; rfl
                have x1 := LL.out; have x2 := JI.out; have x3 := NI.out; have TJ := TI.out
                rw [← drop_step HMM.out, take_put hsk] at TJ
                have hk : keyOf m ∉ KK := fun e => by rw [decide_eq_true e] at BK; cases BK.out
                have C4 := C3.out
                rw [put_kvS _ _ hk] at C4
                exact ⟨i + 1, n + 1, putM m M, KK ++ [keyOf m], by have := JI.out; omega, by go_num, by go_num, Nat.succ_le_succ NI.out, HM.out.put (skip_chk hsk), KG.out, ⟨PF.out, B3.out, (HM.out.put (skip_chk hsk)).may⟩, C4, TJ.1, by have := TJ.2; dsimp only at this ⊢; omega⟩
            | true =>
              have hlo : lookM (keyOf m) M = some o := by cases hq : lookM (keyOf m) M with | none => (have := LF.out; unfold keyOf at hq; rw [hq] at this; cases this) | some z => (have := LO.out; unfold keyOf at hq; rw [hq] at this; rw [← this]; rfl)
              have onum := (chk_num (HM.out.may o (look_mem hlo).1)).2.2.2.1
              have E2 := Lib.hid (expired_all o now onum.1 onum.2 h1 h2)
              obtain ⟨bo, hbo⟩ : ∃ c, lateB o.st now = c := ⟨_, rfl⟩
              have BO := Lib.hid hbo; have HLO := Lib.hid hlo
              rw [hbo] at E2
              clear hbo onum hlo
              have o0 := so 0 _ rfl; have o1 := so 1 _ rfl; have o2 := so 2 _ rfl; have o3 := so 3 _ rfl; have o4 := so 4 _ rfl; have o5 := so 5 _ rfl; have o6 := so 6 _ rfl; have o7 := so 7 _ rfl
              go_wp2_with fail
              refine (E2.out _).mono ?_
              rintro e w8 ⟨rfl, k8⟩
              replace p0 := k8.cell p0 (fun f => f)
              replace k0 := k8.cell k0 (fun f => f)
              replace k1 := k8.cell k1 (fun f => f)
              replace sm := sm.keptF k8
              replace so := so.keptF k8
              replace hb := hb.kept k8 (fun f => f)
              replace hs := hs.kept k8 (fun f => f)
              have K8 := Lib.hid (keptFF K7.out k8)
              clear k8
              clear SE2
              clear o0 o1 o2 o3 o4 o5 o6 o7
              cases bo with
              | false =>
                go_wp2
                go_roundg (L.length - i - 1)
                case measure => have := JI.out; omega
                case rel =>
                  have hsk : skipB now M KK m = true := by unfold skipB hasB; rw [HLO.out]; simp [BO.out]
                  have x1 := LL.out; have x2 := JI.out; have x3 := NI.out; have TJ := TI.out
                  rw [← drop_step HMM.out, take_skip hsk] at TJ
                  exact ⟨i + 1, n, M, KK, by have := JI.out; omega, by go_num, rfl, Nat.le_succ_of_le NI.out, HM.out, (KF.out.trans K8.out (fun _ _ h => h) (fun _ _ f => f.elim) : Kept (fun k => k = b) w w8), ⟨p0, hb, HM.out.may⟩, hs, TJ.1, TJ.2⟩
              | true =>
                go_wp2
                have np : ¬ p = b := fun e => by have h := hb.not_cell (j := po); rw [← e, p0] at h; cases h
                have nnk : ¬ nk = b := fun e => by have h := hb.not_cell (j := 0); rw [← e, k0] at h; cases h
                have nns : ¬ ns = b := fun e => by have h := hb.not_cell (j := 0); rw [← e, sm 0 _ rfl] at h; cases h
                have np2 : ¬ p = sb := fun e => by have h := hs.not_cell (j := po); rw [← e, p0] at h; cases h
                have nnk2 : ¬ nk = sb := fun e => by have h := hs.not_cell (j := 0); rw [← e, k0] at h; cases h
                have nns2 : ¬ ns = sb := fun e => by have h := hs.not_cell (j := 0); rw [← e, sm 0 _ rfl] at h; cases h
                obtain ⟨A1, hA1⟩ : ∃ A, setBlock w8.drew b (.map (entsL 0 (entL (keyOf m) spanZ (kvM M))).toArray (entL (keyOf m) spanZ (kvM M)).length) = A := ⟨_, rfl⟩
                obtain ⟨A2, hA2⟩ : ∃ A, setBlock A1 b (.map (entsL 0 (putL (keyOf m) (aggS m) (kvM M))).toArray (putL (keyOf m) (aggS m) (kvM M)).length) = A := ⟨_, rfl⟩
                obtain ⟨A3, hA3⟩ : ∃ A, setBlock A2 sb (.map (entsL 0 (putL (keyOf m) (.int .i64 1) (kvS KK))).toArray (putL (keyOf m) (.int .i64 1) (kvS KK)).length) = A := ⟨_, rfl⟩
                have BL := hb.lt
                have hb' : MapIs w8.drew b (kvM M) := hb
                have b1 : MapIs A1 b (entL (keyOf m) spanZ (kvM M)) := by rw [← hA1]; exact MapIs.set BL
                have b2 : MapIs A2 b (putL (keyOf m) (aggS m) (kvM M)) := by rw [← hA2]; exact MapIs.set b1.lt
                have KE1 : Kept (fun k => k = b) w8.drew A1 := by rw [← hA1]; exact kept_setBlock (S := fun k => k = _) (Kept.refl _ _) (fun _ => rfl) _
                have KE2 : Kept (fun k => k = b) A1 A2 := by rw [← hA2]; exact kept_setBlock (S := fun k => k = _) (Kept.refl _ _) (fun _ => rfl) _
                have KE3 : Kept (fun k => k = sb) A2 A3 := by rw [← hA3]; exact kept_setBlock (S := fun k => k = _) (Kept.refl _ _) (fun _ => rfl) _
                have c0 : MapIs w8.drew sb (kvS KK) := hs
                have c2 : MapIs A2 sb (kvS KK) := (c0.kept KE1 NBS.out).kept KE2 NBS.out
                have c3 : MapIs A3 sb (putL (keyOf m) (.int .i64 1) (kvS KK)) := by rw [← hA3]; exact MapIs.set c2.lt
                have b3 : MapIs A3 b (putL (keyOf m) (aggS m) (kvM M)) := b2.kept KE3 (fun e => NBS.out e.symm)
                have EQ1 := entry68 hb' (keyOf m)
                have EQ2 := store68 b1 (aggS m)
                have EQ3 := put72 c2 (keyOf m) (.int .i64 1)
                rw [hA1] at EQ1; rw [hA2] at EQ2; rw [hA3] at EQ3
                obtain ⟨ov, hov⟩ : ∃ ov, oldL (keyOf m) spanZ (kvM M) = ov := ⟨_, rfl⟩
                obtain ⟨st, hst⟩ : ∃ st, stampL (keyOf m) (kvM M) = st := ⟨_, rfl⟩
                rw [hov, hst] at EQ1; rw [hst] at EQ2
                unfold keyV keyOf at EQ1 EQ3; unfold aggS at EQ2
                rw [put_kvM] at b3
                have B3 := Lib.hid b3; have C3 := Lib.hid c3
                clear hA1 hA2 hA3 b1 b2 b3 c0 c2 c3 hb hb' hs hov hst BL
                refine wp_region_held_drew (S := (fun w' => w'.cell? ⟨p, po, none⟩ = some (.map (some b)) ∧ w'.cell? ⟨nk, 0, none⟩ = some (.int .i64 m.tr) ∧ w'.cell? ⟨nk, 1, none⟩ = some (.int .i64 m.id) ∧ SpanAt w' ns m)) (by kernel_rfl) ?_ (fun hHeld => ?_)
                · exact ⟨p0, k0, k1, sm⟩
                refine wpAnyH_take (i := 0) (v := ?_) opAt0 (by kernel_rfl) (by kernel_rfl) (by kernel_rfl) (fun _ _ _ h => h) (Or.inl ⟨by rfl, ?_⟩) hHeld ?_
                case refine_2 => (intro w hSw; (try dsimp only at hSw); go_simp; all_goals (with_reducible rfl))
                (try simp only [Act.put]); (try simp only [List.setIfInBounds_toArray]); (try simp only [List.set_cons_succ]); (try simp only [List.set_cons_zero])
                refine wpAnyH_take (i := 1) (v := ?_) opAt1 (by kernel_rfl) (by kernel_rfl) (by kernel_rfl) (fun _ _ _ h => h) (Or.inl ⟨by rfl, ?_⟩) hHeld ?_
                case refine_2 => (intro w hSw; (try dsimp only at hSw); go_simp; all_goals (with_reducible rfl))
                (try simp only [Act.put]); (try simp only [List.setIfInBounds_toArray]); (try simp only [List.set_cons_succ]); (try simp only [List.set_cons_zero])
                refine wpAnyH_take (i := 2) (v := ?_) opAt2 (by kernel_rfl) (by kernel_rfl) (by kernel_rfl) (fun _ _ _ h => h) (Or.inl ⟨by rfl, ?_⟩) hHeld ?_
                case refine_2 => (intro w hSw; (try dsimp only at hSw); go_simp; all_goals (with_reducible rfl))
                (try simp only [Act.put]); (try simp only [List.setIfInBounds_toArray]); (try simp only [List.set_cons_succ]); (try simp only [List.set_cons_zero])
                refine wpAnyH_take (i := 3) (v := ?_) opAt3 (by kernel_rfl) (by kernel_rfl) (by kernel_rfl) (fun _ _ _ h => h) (Or.inl ⟨by rfl, ?_⟩) hHeld ?_
                case refine_2 => (intro w hSw; (try dsimp only at hSw); go_simp; all_goals (with_reducible rfl))
                (try simp only [Act.put]); (try simp only [List.setIfInBounds_toArray]); (try simp only [List.set_cons_succ]); (try simp only [List.set_cons_zero])
                refine wpAnyH_take (i := 4) (v := ?_) opAt4 (by kernel_rfl) (by kernel_rfl) (by kernel_rfl) (fun _ _ _ h => h) (Or.inl ⟨by rfl, ?_⟩) hHeld ?_
                case refine_2 => (intro w hSw; (try dsimp only at hSw); go_simp; all_goals (with_reducible rfl))
                (try simp only [Act.put]); (try simp only [List.setIfInBounds_toArray]); (try simp only [List.set_cons_succ]); (try simp only [List.set_cons_zero])
                refine wpAnyH_take (i := 5) (v := ?_) opAt5 (by kernel_rfl) (by kernel_rfl) (by kernel_rfl) (fun _ _ _ h => h) (Or.inl ⟨by rfl, ?_⟩) hHeld ?_
                case refine_2 => (intro w hSw; (try dsimp only at hSw); go_simp; all_goals (with_reducible rfl))
                (try simp only [Act.put]); (try simp only [List.setIfInBounds_toArray]); (try simp only [List.set_cons_succ]); (try simp only [List.set_cons_zero])
                refine wpAnyH_take (i := 6) (v := ?_) opAt6 (by kernel_rfl) (by kernel_rfl) (by kernel_rfl) (fun _ _ _ h => h) (Or.inl ⟨by rfl, ?_⟩) hHeld ?_
                case refine_2 => (intro w hSw; (try dsimp only at hSw); go_simp; all_goals (with_reducible rfl))
                (try simp only [Act.put]); (try simp only [List.setIfInBounds_toArray]); (try simp only [List.set_cons_succ]); (try simp only [List.set_cons_zero])
                refine wpAnyH_take (i := 7) (v := ?_) opAt7 (by kernel_rfl) (by kernel_rfl) (by kernel_rfl) (fun _ _ _ h => h) (Or.inl ⟨by rfl, ?_⟩) hHeld ?_
                case refine_2 => (intro w hSw; (try dsimp only at hSw); have s0 := hSw.2.2.2 0 _ rfl; have s1 := hSw.2.2.2 1 _ rfl; have s2 := hSw.2.2.2 2 _ rfl; have s3 := hSw.2.2.2 3 _ rfl; have s4 := hSw.2.2.2 4 _ rfl; have s5 := hSw.2.2.2 5 _ rfl; have s6 := hSw.2.2.2 6 _ rfl; have s7 := hSw.2.2.2 7 _ rfl; clear hSw; go_simp; all_goals (with_reducible rfl))
                (try simp only [Act.put]); (try simp only [List.setIfInBounds_toArray]); (try simp only [List.set_cons_succ]); (try simp only [List.set_cons_zero])
                refine wpAnyH_ready (rs := [8]) (by kernel_rfl) (by simp) ?_
                refine AllReadyH.cons opAt8 (fun K hK => ?_) AllReadyH.nil
                go_simp
                skip
                refine hK.out _ _ ?_ (fun hHeld => ?_)
                · exact ⟨KE1.cell hHeld.1 np, KE1.cell hHeld.2.1 nnk, KE1.cell hHeld.2.2.1 nnk, hHeld.2.2.2.kept KE1 nns⟩
                clear hK K
                (try simp only [Act.put]); (try simp only [List.setIfInBounds_toArray]); (try simp only [List.set_cons_succ]); (try simp only [List.set_cons_zero])
                refine wpAnyH_take (i := 9) (v := ?_) opAt9 (by kernel_rfl) (by kernel_rfl) (by kernel_rfl) (fun _ _ _ h => h) (Or.inl ⟨by rfl, ?_⟩) hHeld ?_
                case refine_2 => (intro w hSw; (try dsimp only at hSw); go_simp; all_goals (with_reducible rfl))
                (try simp only [Act.put]); (try simp only [List.setIfInBounds_toArray]); (try simp only [List.set_cons_succ]); (try simp only [List.set_cons_zero])
                refine wpAnyH_ready (rs := [10]) (by kernel_rfl) (by simp) ?_
                refine AllReadyH.cons opAt10 (fun K hK => ?_) AllReadyH.nil
                go_simp
                skip
                refine hK.out _ _ ?_ (fun hHeld => ?_)
                · exact ⟨KE2.cell hHeld.1 np, KE2.cell hHeld.2.1 nnk, KE2.cell hHeld.2.2.1 nnk, hHeld.2.2.2.kept KE2 nns⟩
                clear hK K
                (try simp only [Act.put]); (try simp only [List.setIfInBounds_toArray]); (try simp only [List.set_cons_succ]); (try simp only [List.set_cons_zero])
                refine wpAnyH_ready (rs := [11]) (by kernel_rfl) (by simp) ?_
                refine AllReadyH.cons opAt11 (fun K hK => ?_) AllReadyH.nil
                go_simp
                skip
                refine hK.out _ _ ?_ (fun hHeld => ?_)
                · exact ⟨KE3.cell hHeld.1 np2, KE3.cell hHeld.2.1 nnk2, KE3.cell hHeld.2.2.1 nnk2, hHeld.2.2.2.kept KE3 nns2⟩
                clear hK K
                (try simp only [Act.put]); (try simp only [List.setIfInBounds_toArray]); (try simp only [List.set_cons_succ]); (try simp only [List.set_cons_zero])
                refine wpAnyH_done (by kernel_rfl) ?_ _
                have kf : Kept (fun k => k = b) w A3 := (KF.out.trans (((K8.out.drew).mono (fun _ _ f => f.elim) : Kept (fun k => k = b) wr _).trans (KE1.trans KE2 (fun _ _ h => h) (fun _ _ h => h)) (fun _ _ h => h) (fun _ _ h => h)) (fun _ _ h => h) (fun _ _ h => h)).trans KE3 (fun _ _ h => h) (fun i hi h => absurd hi (by rw [h]; exact Nat.not_lt.2 SB.out))
                have pf : A3.cell? ⟨p, po, none⟩ = some (.map (some b)) := KE3.cell (KE2.cell (KE1.cell p0 np) np) np2
                have KG := Lib.hid kf
                have PF := Lib.hid pf
                clear kf pf EQ1 EQ2 EQ3
                have i3 : (0 : Int) ≤ (n : Int) := by omega
                have i4 : (n : Int) ≤ 9223372036854775806 := by have := NI.out; have := JI.out; have := LL.out; omega
                go_wp2
                go_roundg (L.length - i - 1)
                case measure => have := JI.out; omega
                case rel =>
                  have hsk : skipB now M KK m = false := by unfold skipB; rw [BC.out, BE.out, BK.out]; unfold hasB; rw [HLO.out]; simp [BO.out]
                  have x1 := LL.out; have x2 := JI.out; have x3 := NI.out; have TJ := TI.out
                  rw [← drop_step HMM.out, take_put hsk] at TJ
                  have hk : keyOf m ∉ KK := fun e => by rw [decide_eq_true e] at BK; cases BK.out
                  have C4 := C3.out
                  rw [put_kvS _ _ hk] at C4
                  exact ⟨i + 1, n + 1, putM m M, KK ++ [keyOf m], by have := JI.out; omega, by go_num, by go_num, Nat.succ_le_succ NI.out, HM.out.put (skip_chk hsk), KG.out, ⟨PF.out, B3.out, (HM.out.put (skip_chk hsk)).may⟩, C4, TJ.1, by have := TJ.2; dsimp only at this ⊢; omega⟩
    · have i1 : ¬ (i : Int) < (L.length : Int) := by omega
      have ei : L.drop i = [] := List.drop_eq_nil_of_le (by omega)
      have TJ := TI.out
      rw [ei] at TJ
      have e1 : M = TF.1 := TJ.1
      have e2 : n = TF.2 := TJ.2
      have HMM := Lib.hid (show ModelAt wr p po b M from ⟨p0, hb, HM.out.may⟩)
      clear p0 hb hs ei TJ
      go_wp2
      go_ret
      exact ⟨by rw [← e2]; rfl, KF.out, e1 ▸ HMM.out⟩
end Go.Proofs.YtelhdbkkigehgaaGreatDoor

/- Printed by port_model.py out of the Model seat. -/
namespace Go.Proofs.YtelhdbkkigehgaaGreatDoor
open Go.RowKit Go.Shelf Go.Lib Go.Sort

def cmpI (x y : Int) : Int := if x < y then -1 else if y < x then 1 else 0
def orI (a b : Int) : Int := if a = 0 then b else a
def cmpS (x y : Spn) : Int := orI (cmpI x.tr y.tr) (cmpI x.id y.id)
theorem nan_int (x : Int) (w : World) : Calls Tryz.prog 422 #[.int .i64 x] w fun e w' => e = .returned (.bool false) ∧ w = w' := by
  go_enter Tryz.func422, Tryz.ntmps422
  go_wp2
  go_ret
  exact ⟨by simp, rfl⟩
theorem cmp_int (x y : Int) (w : World) : Calls Tryz.prog 309 #[.int .i64 x, .int .i64 y] w fun e w' => e = .returned (.int .i64 (cmpI x y)) ∧ w = w' := by
  go_enter Tryz.func309, Tryz.ntmps309
  go_wp2_with (go_at_call 422; refine (nan_int _ _).mono ?_; rintro e w' ⟨rfl, rfl⟩)
  all_goals go_ret
  all_goals (refine ⟨?_, rfl⟩; unfold cmpI; (repeat' split) <;> first | rfl | (exfalso; omega))
set_option maxHeartbeats 2000000 in
set_option maxRecDepth 100000 in
theorem or_two (g : Nat) (a b : Int) (c : Nat) (w : World) (h0 : w.cell? ⟨g, 0, none⟩ = some (.int .i64 a)) (h1 : w.cell? ⟨g, 1, none⟩ = some (.int .i64 b)) :
    Calls Tryz.prog 340 #[.slice (some ⟨g, 0, none⟩) 2 c] w fun e w' => e = .returned (.int .i64 (orI a b)) ∧ w = w' := by
  go_enter Tryz.func340, Tryz.ntmps340
  go_wp2
  go_loopg [8] 2 (fun gh t wr => wr = w ∧ ((gh = 2 ∧ t = .int .i64 0) ∨ (gh = 1 ∧ t = .int .i64 1 ∧ a = 0) ∨ (gh = 0 ∧ t = .int .i64 2 ∧ a = 0 ∧ b = 0)))
  case atStart => exact ⟨rfl, .inl ⟨rfl, rfl⟩⟩
  case round =>
    obtain ⟨rfl, ⟨rfl, rfl⟩ | ⟨rfl, rfl, rfl⟩ | ⟨rfl, rfl, rfl, rfl⟩⟩ := hrel
    · by_cases ha : a = 0
      · subst ha
        go_wp2
        go_roundg 1
        case measure => omega
        case rel => exact ⟨rfl, .inr (.inl ⟨rfl, rfl, trivial⟩)⟩
      · go_wp2
        go_ret
        exact ⟨by unfold orI; rw [if_neg ha]; rfl, rfl⟩
    · by_cases hb : b = 0
      · subst hb
        go_wp2
        go_roundg 0
        case measure => omega
        case rel => exact ⟨rfl, .inr (.inr ⟨rfl, rfl, trivial, trivial⟩)⟩
      · go_wp2
        go_ret
        exact ⟨by unfold orI; rw [if_pos rfl]; rfl, rfl⟩
    · go_wp2
      go_ret
      exact ⟨by unfold orI; rfl, rfl⟩
set_option maxHeartbeats 4000000 in
set_option maxRecDepth 100000 in
theorem closure_all (x y : Spn) (w : World) : Calls Tryz.prog 339 #[aggS x, aggS y] w fun e w' => e = .returned (.int .i64 (cmpS x y)) ∧ ∃ q os', w' = grow (w.drewN q) os' := by
  unfold aggS
  have C0 := Lib.hid (cmp_int x.tr y.tr)
  have C1 := Lib.hid (cmp_int x.id y.id)
  unfold cmpS
  obtain ⟨c0, h0⟩ : ∃ c, cmpI x.tr y.tr = c := ⟨_, rfl⟩
  obtain ⟨c1, h1⟩ : ∃ c, cmpI x.id y.id = c := ⟨_, rfl⟩
  rw [h0] at C0 ⊢
  rw [h1] at C1 ⊢
  clear h0 h1
  go_enter Tryz.func339, Tryz.ntmps339
  go_wp2
  obtain ⟨W, hW⟩ : ∃ W, (w.alloc (.cells #[.int .i64 x.tr, .int .i64 x.id, .int .i64 x.pa, .string x.se, .string x.ho, .int .i64 x.st, .int .i64 x.du, .string x.no] 35)).alloc (.cells #[.int .i64 y.tr, .int .i64 y.id, .int .i64 y.pa, .string y.se, .string y.ho, .int .i64 y.st, .int .i64 y.du, .string y.no] 35) = W := ⟨_, rfl⟩
  obtain ⟨nx, hnx⟩ : ∃ n, w.heap.size = n := ⟨_, rfl⟩
  obtain ⟨ny, hny⟩ : ∃ n, nx + 1 = n := ⟨_, rfl⟩
  have kA : Kept (fun _ => False) w (w.alloc (.cells #[.int .i64 x.tr, .int .i64 x.id, .int .i64 x.pa, .string x.se, .string x.ho, .int .i64 x.st, .int .i64 x.du, .string x.no] 35)) := (Kept.refl _ w).alloc _
  have kB : Kept (fun _ => False) (w.alloc (.cells #[.int .i64 x.tr, .int .i64 x.id, .int .i64 x.pa, .string x.se, .string x.ho, .int .i64 x.st, .int .i64 x.du, .string x.no] 35)) W := by rw [← hW]; exact (Kept.refl _ _).alloc _
  have hx : SpanAt W nx x := by rw [← hnx]; exact SpanAt.new.keptF kB
  have hy : SpanAt W ny y := by
    have h := SpanAt.new (w := w.alloc (.cells #[.int .i64 x.tr, .int .i64 x.id, .int .i64 x.pa, .string x.se, .string x.ho, .int .i64 x.st, .int .i64 x.du, .string x.no] 35)) (m := y)
    rw [hW] at h
    have e : (w.alloc (.cells #[.int .i64 x.tr, .int .i64 x.id, .int .i64 x.pa, .string x.se, .string x.ho, .int .i64 x.st, .int .i64 x.du, .string x.no] 35)).heap.size = ny := by rw [← hny, ← hnx]; simp
    rwa [e] at h
  have x0 := hx 0 _ rfl
  have x1 := hx 1 _ rfl
  have y0 := hy 0 _ rfl
  have y1 := hy 1 _ rfl
  have GW := Lib.hid (show W = grow (w.drewN 0) #[.cells #[.int .i64 x.tr, .int .i64 x.id, .int .i64 x.pa, .string x.se, .string x.ho, .int .i64 x.st, .int .i64 x.du, .string x.no] 35, .cells #[.int .i64 y.tr, .int .i64 y.id, .int .i64 y.pa, .string y.se, .string y.ho, .int .i64 y.st, .int .i64 y.du, .string y.no] 35] from by rw [← hW, alloc_eq_grow, alloc_eq_grow, grow_grow]; rfl)
  rw [hW, hnx, hny]
  clear hW hnx hny kA kB hx hy
  refine wp_region_held_drew (S := (fun w' => w'.cell? ⟨nx, 0, none⟩ = some (.int .i64 x.tr) ∧ w'.cell? ⟨nx, 1, none⟩ = some (.int .i64 x.id) ∧ w'.cell? ⟨ny, 0, none⟩ = some (.int .i64 y.tr) ∧ w'.cell? ⟨ny, 1, none⟩ = some (.int .i64 y.id))) (by kernel_rfl) ?_ (fun hHeld => ?_)
  · exact ⟨x0, x1, y0, y1⟩
  refine wpAnyH_take (i := 0) (v := ?_) opAt0 (by kernel_rfl) (by kernel_rfl) (by kernel_rfl) (fun _ _ _ h => h) (Or.inl ⟨by rfl, ?_⟩) hHeld ?_
  case refine_2 => (intro w hSw; (try dsimp only at hSw); go_simp; all_goals (with_reducible rfl))
  (try simp only [Act.put]); (try simp only [List.setIfInBounds_toArray]); (try simp only [List.set_cons_succ]); (try simp only [List.set_cons_zero])
  refine wpAnyH_take (i := 1) (v := ?_) opAt1 (by kernel_rfl) (by kernel_rfl) (by kernel_rfl) (fun _ _ _ h => h) (Or.inl ⟨by rfl, ?_⟩) hHeld ?_
  case refine_2 => (intro w hSw; (try dsimp only at hSw); go_simp; all_goals (with_reducible rfl))
  (try simp only [Act.put]); (try simp only [List.setIfInBounds_toArray]); (try simp only [List.set_cons_succ]); (try simp only [List.set_cons_zero])
  refine wpAnyH_take (i := 2) (v := ?_) opAt2 (by kernel_rfl) (by kernel_rfl) (by kernel_rfl) (fun _ _ _ h => h) (Or.inl ⟨by rfl, ?_⟩) hHeld ?_
  case refine_2 => (intro w hSw; (try dsimp only at hSw); go_simp; all_goals (with_reducible rfl))
  (try simp only [Act.put]); (try simp only [List.setIfInBounds_toArray]); (try simp only [List.set_cons_succ]); (try simp only [List.set_cons_zero])
  refine wpAnyH_take (i := 3) (v := ?_) opAt3 (by kernel_rfl) (by kernel_rfl) (by kernel_rfl) (fun _ _ _ h => h) (Or.inl ⟨by rfl, ?_⟩) hHeld ?_
  case refine_2 => (intro w hSw; (try dsimp only at hSw); go_simp; all_goals (with_reducible rfl))
  (try simp only [Act.put]); (try simp only [List.setIfInBounds_toArray]); (try simp only [List.set_cons_succ]); (try simp only [List.set_cons_zero])
  refine wpAnyH_take (i := 5) (v := ?_) opAt5 (by kernel_rfl) (by kernel_rfl) (by kernel_rfl) (fun _ _ _ h => h) (Or.inl ⟨by rfl, ?_⟩) hHeld ?_
  case refine_2 => (intro w hSw; (try dsimp only at hSw); go_simp; all_goals (with_reducible rfl))
  (try simp only [Act.put]); (try simp only [List.setIfInBounds_toArray]); (try simp only [List.set_cons_succ]); (try simp only [List.set_cons_zero])
  refine wpAnyH_take (i := 6) (v := ?_) opAt6 (by kernel_rfl) (by kernel_rfl) (by kernel_rfl) (fun _ _ _ h => h) (Or.inl ⟨by rfl, ?_⟩) hHeld ?_
  case refine_2 => (intro w hSw; (try dsimp only at hSw); go_simp; all_goals (with_reducible rfl))
  (try simp only [Act.put]); (try simp only [List.setIfInBounds_toArray]); (try simp only [List.set_cons_succ]); (try simp only [List.set_cons_zero])
  refine wpAnyH_take (i := 7) (v := ?_) opAt7 (by kernel_rfl) (by kernel_rfl) (by kernel_rfl) (fun _ _ _ h => h) (Or.inl ⟨by rfl, ?_⟩) hHeld ?_
  case refine_2 => (intro w hSw; (try dsimp only at hSw); go_simp; all_goals (with_reducible rfl))
  (try simp only [Act.put]); (try simp only [List.setIfInBounds_toArray]); (try simp only [List.set_cons_succ]); (try simp only [List.set_cons_zero])
  refine wpAnyH_take (i := 8) (v := ?_) opAt8 (by kernel_rfl) (by kernel_rfl) (by kernel_rfl) (fun _ _ _ h => h) (Or.inl ⟨by rfl, ?_⟩) hHeld ?_
  case refine_2 => (intro w hSw; (try dsimp only at hSw); go_simp; all_goals (with_reducible rfl))
  (try simp only [Act.put]); (try simp only [List.setIfInBounds_toArray]); (try simp only [List.set_cons_succ]); (try simp only [List.set_cons_zero])
  refine wpAnyH_ready (rs := [4]) (by kernel_rfl) (by simp) ?_
  refine AllReadyH.cons opAt4 (fun K hK => ?_) AllReadyH.nil
  go_simp
  go_at_call 309; refine (C0.out _).mono ?_; rintro e w5 ⟨rfl, rfl⟩; dsimp only
  refine hK.out _ _ ?_ (fun hHeld => ?_)
  · exact hHeld
  clear hK K
  (try simp only [Act.put]); (try simp only [List.setIfInBounds_toArray]); (try simp only [List.set_cons_succ]); (try simp only [List.set_cons_zero])
  refine wpAnyH_ready (rs := [9]) (by kernel_rfl) (by simp) ?_
  refine AllReadyH.cons opAt9 (fun K hK => ?_) AllReadyH.nil
  go_simp
  go_at_call 309; refine (C1.out _).mono ?_; rintro e w6 ⟨rfl, rfl⟩; dsimp only
  refine hK.out _ _ ?_ (fun hHeld => ?_)
  · exact hHeld
  clear hK K
  (try simp only [Act.put]); (try simp only [List.setIfInBounds_toArray]); (try simp only [List.set_cons_succ]); (try simp only [List.set_cons_zero])
  refine wpAnyH_ready (rs := [10]) (by kernel_rfl) (by simp) ?_
  refine AllReadyH.cons opAt10 (fun K hK => ?_) AllReadyH.nil
  go_simp
  skip
  refine hK.out _ _ ?_ (fun hHeld => ?_)
  · exact ⟨(((Kept.refl (fun _ => False) W.drew).alloc (.cells #[.int .i64 c0, .int .i64 c1] 3))).cell hHeld.1 (fun f => f), (((Kept.refl (fun _ => False) W.drew).alloc (.cells #[.int .i64 c0, .int .i64 c1] 3))).cell hHeld.2.1 (fun f => f), (((Kept.refl (fun _ => False) W.drew).alloc (.cells #[.int .i64 c0, .int .i64 c1] 3))).cell hHeld.2.2.1 (fun f => f), (((Kept.refl (fun _ => False) W.drew).alloc (.cells #[.int .i64 c0, .int .i64 c1] 3))).cell hHeld.2.2.2 (fun f => f)⟩
  clear hK K
  (try simp only [Act.put]); (try simp only [List.setIfInBounds_toArray]); (try simp only [List.set_cons_succ]); (try simp only [List.set_cons_zero])
  refine wpAnyH_ready (rs := [11]) (by kernel_rfl) (by simp) ?_
  refine AllReadyH.cons opAt11 (fun K hK => ?_) AllReadyH.nil
  go_simp
  go_at_call 340; refine (or_two _ c0 c1 _ _ (by simp) (by simp)).mono ?_; rintro e w7 ⟨rfl, rfl⟩; dsimp only
  refine hK.out _ _ ?_ (fun hHeld => ?_)
  · exact hHeld
  clear hK K
  (try simp only [Act.put]); (try simp only [List.setIfInBounds_toArray]); (try simp only [List.set_cons_succ]); (try simp only [List.set_cons_zero])
  refine wpAnyH_take (i := 12) (v := ?_) opAt12 (by kernel_rfl) (by kernel_rfl) (by kernel_rfl) (fun _ _ _ h => h) (Or.inl ⟨by rfl, ?_⟩) hHeld ?_
  case refine_2 => (intro w hSw; (try dsimp only at hSw); go_simp; all_goals (with_reducible rfl))
  (try simp only [Act.put]); (try simp only [List.setIfInBounds_toArray]); (try simp only [List.set_cons_succ]); (try simp only [List.set_cons_zero])
  refine wpAnyH_done (by kernel_rfl) ?_ _
  go_wp2
  go_ret
  have E : (W.alloc (.cells #[.int .i64 c0, .int .i64 c1] 3)).drew = grow (w.drewN 1) (#[.cells #[.int .i64 x.tr, .int .i64 x.id, .int .i64 x.pa, .string x.se, .string x.ho, .int .i64 x.st, .int .i64 x.du, .string x.no] 35, .cells #[.int .i64 y.tr, .int .i64 y.id, .int .i64 y.pa, .string y.se, .string y.ho, .int .i64 y.st, .int .i64 y.du, .string y.no] 35] ++ #[.cells #[.int .i64 c0, .int .i64 c1] 3]) := by
    rw [GW.out, alloc_eq_grow]
    exact grow_grow (w.drewN 1) _ _
  exact ⟨rfl, 1, _, E⟩
end Go.Proofs.YtelhdbkkigehgaaGreatDoor

/- slices.SortFunc at spans, laid at this program: tables of numbers, a fact a field. (Printed by the kit's lay-plain.) -/
namespace Go.Proofs
open Go.Shelf
def Tryz.sortSp_ren : Go.Shelf.Ren := ⟨fun | 6 => 338 | 15 => 323 | 14 => 455 | 28 => 445 | 29 => 399 | 20 => 526 | 21 => 527 | 22 => 528 | 23 => 529 | 24 => 530 | 25 => 531 | 26 => 532 | 27 => 533 | 46 => 558 | 47 => 510 | 48 => 511 | 49 => 559 | 50 => 560 | 57 => 576 | n => n, fun | 22 => 59 | 24 => 35 | 25 => 443 | 3 => 3 | 39 => 267 | 0 => 0 | 53 => 385 | 55 => 376 | 4 => 4 | 46 => 530 | 45 => 529 | 50 => 83 | 5 => 5 | 9 => 9 | 66 => 593 | 70 => 334 | 76 => 636 | 77 => 343 | n => n, fun | n => n⟩
theorem Tryz.sortSp : Go.Proofs.SlLaysF0.n6 Tryz.prog Tryz.sortSp_ren := {
  mixed := by kernel_rfl
  f6 := ⟨Tryz.f338.name, by decide, Tryz.func338.trans (congrArg some (by kernel_rfl))⟩
  f14 := ⟨Tryz.f455.name, by decide, Tryz.func455.trans (congrArg some (by kernel_rfl))⟩
  f15 := Tryz.func323.trans (congrArg some (by kernel_rfl))
  f20 := ⟨Tryz.f526.name, by decide, Tryz.func526.trans (congrArg some (by kernel_rfl))⟩
  f21 := ⟨Tryz.f527.name, by decide, Tryz.func527.trans (congrArg some (by kernel_rfl))⟩
  f22 := ⟨Tryz.f528.name, by decide, Tryz.func528.trans (congrArg some (by kernel_rfl))⟩
  f23 := ⟨Tryz.f529.name, by decide, Tryz.func529.trans (congrArg some (by kernel_rfl))⟩
  f24 := ⟨Tryz.f530.name, by decide, Tryz.func530.trans (congrArg some (by kernel_rfl))⟩
  f25 := ⟨Tryz.f531.name, by decide, Tryz.func531.trans (congrArg some (by kernel_rfl))⟩
  f26 := ⟨Tryz.f532.name, by decide, Tryz.func532.trans (congrArg some (by kernel_rfl))⟩
  f27 := ⟨Tryz.f533.name, by decide, Tryz.func533.trans (congrArg some (by kernel_rfl))⟩
  f28 := Tryz.func445.trans (congrArg some (by kernel_rfl))
  f29 := Tryz.func399.trans (congrArg some (by kernel_rfl))
  f46 := ⟨Tryz.f558.name, by decide, Tryz.func558.trans (congrArg some (by kernel_rfl))⟩
  f47 := Tryz.func510.trans (congrArg some (by kernel_rfl))
  f48 := Tryz.func511.trans (congrArg some (by kernel_rfl))
  f49 := ⟨Tryz.f559.name, by decide, Tryz.func559.trans (congrArg some (by kernel_rfl))⟩
  f50 := ⟨Tryz.f560.name, by decide, Tryz.func560.trans (congrArg some (by kernel_rfl))⟩
  f57 := ⟨Tryz.f576.name, by decide, Tryz.func576.trans (congrArg some (by kernel_rfl))⟩
  t0 := Tryz.underlying0
  a0 := Tryz.isAgg0
  z0 := Tryz.sizeOf0
  v0 := Tryz.zeroValue0
  t3 := Tryz.underlying3
  a3 := Tryz.isAgg3
  z3 := Tryz.sizeOf3
  v3 := Tryz.zeroValue3
  t4 := Tryz.underlying4
  a4 := Tryz.isAgg4
  z4 := Tryz.sizeOf4
  v4 := Tryz.zeroValue4
  t5 := Tryz.underlying5
  a5 := Tryz.isAgg5
  z5 := Tryz.sizeOf5
  v5 := Tryz.zeroValue5
  t9 := Tryz.underlying9
  a9 := Tryz.isAgg9
  z9 := Tryz.sizeOf9
  v9 := Tryz.zeroValue9
  t22 := Tryz.underlying59
  a22 := Tryz.isAgg59
  z22 := Tryz.sizeOf59
  v22 := Tryz.zeroValue59
  t25 := Tryz.underlying443
  a25 := Tryz.isAgg443
  z25 := Tryz.sizeOf443
  v25 := Tryz.zeroValue443
  t39 := Tryz.underlying267
  a39 := Tryz.isAgg267
  z39 := Tryz.sizeOf267
  v39 := Tryz.zeroValue267
  t45 := Tryz.underlying529
  a45 := Tryz.isAgg529
  z45 := Tryz.sizeOf529
  v45 := Tryz.zeroValue529
  t46 := Tryz.underlying530
  a46 := Tryz.isAgg530
  z46 := Tryz.sizeOf530
  v46 := Tryz.zeroValue530
  t50 := Tryz.underlying83
  a50 := Tryz.isAgg83
  z50 := Tryz.sizeOf83
  v50 := Tryz.zeroValue83
  t53 := Tryz.underlying385
  a53 := Tryz.isAgg385
  z53 := Tryz.sizeOf385
  v53 := Tryz.zeroValue385
  t55 := Tryz.underlying376
  a55 := Tryz.isAgg376
  z55 := Tryz.sizeOf376
  v55 := Tryz.zeroValue376
  t66 := Tryz.underlying593
  a66 := Tryz.isAgg593
  z66 := Tryz.sizeOf593
  v66 := Tryz.zeroValue593
  t70 := Tryz.underlying334
  a70 := Tryz.isAgg334
  z70 := Tryz.sizeOf334
  v70 := Tryz.zeroValue334
  t76 := Tryz.underlying636
  a76 := Tryz.isAgg636
  z76 := Tryz.sizeOf636
  v76 := Tryz.zeroValue636
  t77 := Tryz.underlying343
  a77 := Tryz.isAgg343
  z77 := Tryz.sizeOf343
  v77 := Tryz.zeroValue343 }
end Go.Proofs

/- Printed by port_model.py out of the Model seat. -/
namespace Go.Proofs.YtelhdbkkigehgaaGreatDoor
open Go.RowKit Go.Shelf Go.Lib Go.Sort

def keyLt (x y : Spn) : Prop := x.tr < y.tr ∨ x.tr = y.tr ∧ x.id < y.id
instance (x y : Spn) : Decidable (keyLt x y) := by unfold keyLt; infer_instance
theorem lt_cmpS (x y : Spn) : ltOf cmpS x y = decide (keyLt x y) := by
  have h : cmpS x y < 0 ↔ keyLt x y := by
    unfold cmpS orI cmpI keyLt
    (repeat' split) <;> omega
  unfold ltOf
  exact decide_eq_decide.2 h
theorem swoS : SWO (ltOf cmpS) where
  irrefl x := by rw [lt_cmpS, decide_eq_false_iff_not]; unfold keyLt; omega
  trans x y z h1 h2 := by rw [lt_cmpS, decide_eq_true_eq] at h1 h2 ⊢; unfold keyLt at *; omega
  ntrans x y z h1 h2 := by rw [lt_cmpS, decide_eq_false_iff_not] at h1 h2 ⊢; unfold keyLt at *; omega
/-- No later one comes ahead of an earlier one. -/
def SortedS (L : List Spn) : Prop := L.Pairwise (fun x y => ¬ keyLt y x)
theorem sorted_of_in {d : Array Spn} (h : SortedIn (ltOf cmpS) 0 d.size d) : SortedS d.toList := by
  unfold SortedS
  rw [List.pairwise_iff_getElem]
  intro i j hi hj hij
  have := h i j (Nat.zero_le _) hij (by simpa using hj)
  rw [lt_cmpS] at this
  have hi' : i < d.size := by simpa using hi
  have hj' : j < d.size := by simpa using hj
  rw [getElem!_pos d i hi', getElem!_pos d j hj'] at this
  simpa using this
theorem perm_of_in {d d' : Array Spn} (h : PermIn 0 d.size d d') : d'.toList.Perm d.toList := by
  obtain ⟨hs, _, hp⟩ := h
  have e1 : d.extract 0 d.size = d := by simp
  have e2 : d'.extract 0 d.size = d' := by rw [← hs]; simp
  rwa [e1, e2] at hp
theorem agg37 (w : World) : (isAgg 35).run Tryz.prog w = .ok true w := by kernel_rfl
theorem size37 (w : World) : (Go.sizeOf 35).run Tryz.prog w = .ok 8 w := by kernel_rfl
theorem flat_at (d : List Spn) (j : Nat) (h : j < d.length * 8) : (cellsS d)[j]? = some (flatK Spn.cells 8 d.toArray)[j]! := by
  rw [get_flatK _ _ _ _ (by simpa using h)]
  have hq : j / 8 < d.length := by omega
  have hm : d[j / 8]? = some d[j / 8] := List.getElem?_eq_getElem hq
  have hr : j % 8 < 8 := Nat.mod_lt _ (by omega)
  have h1 := cellsS_at d (j / 8) _ hm (j % 8) hr
  rw [show j / 8 * 8 + j % 8 = j by omega] at h1
  rw [h1]
  have h2 : (d.toArray)[j / 8]! = d[j / 8] := by
    rw [getElem!_pos d.toArray (j / 8) (by simpa using hq)]; simp
  rw [h2]
  have hl : j % 8 < (d[j / 8].cells).length := hr
  rw [List.getElem?_eq_getElem hl]
  rw [getElem!_pos (d[j / 8].cells) (j % 8) hl]
/-- A row that lies at the head of a block of its own. -/
theorem own_of_reads {w : World} {base g cap : Nat} {cur : Array Value} {d : List Spn} (hb : base ≤ g) (hg : w.heap[g]? = some (.cells cur 35 (0, 0))) (hn : d.length ≤ cap) (hm : cap ≤ maxLen) (hs : cur.size = cap * 8) (hc : ∀ j u, (cellsS d)[j]? = some u → w.cell? ⟨g, j, none⟩ = some u) :
    w.ownsRow base 35 8 (.slice (some ⟨g, 0, none⟩) d.length cap) d.length (cellsS d) := by
  refine ⟨cellsS_length d, .inr ⟨g, cap, cur, rfl, hb, hg, hn, hm, hs, ?_⟩⟩
  apply List.ext_getElem?
  intro j
  rw [List.getElem?_take]
  split
  · rename_i hj
    have hl : j < (cellsS d).length := by rw [cellsS_length]; exact hj
    have h := hc j _ (List.getElem?_eq_getElem hl)
    rw [List.getElem?_eq_getElem hl, ← h]
    simp [World.cell?, hg]
  · rename_i hj
    rw [List.getElem?_eq_none (by rw [cellsS_length]; omega)]
theorem sort_own {w : World} {base : Nat} {v : Value} {d : List Spn} (h : w.ownsRow base 35 8 v d.length (cellsS d)) (hl : d.length < 4611686018427387904) :
    Calls Tryz.prog 338 #[v, .func (.func 339) #[] #[]] w fun e w' => e = .returned (.tuple #[]) ∧ Kept (fun k => v.ownBlock = some k) w w' ∧ ∃ d' : List Spn, d'.Perm d ∧ SortedS d' ∧ w'.ownsRow base 35 8 v d'.length (cellsS d') := by
  have hcells := h
  obtain ⟨hlen, h2⟩ := h
  cases d with
  | nil =>
    have hv : ∃ p c, v = .slice p 0 c := by
      rcases h2 with ⟨rfl, _⟩ | ⟨g, cap, cur, rfl, _⟩
      · exact ⟨none, 0, rfl⟩
      · exact ⟨_, cap, rfl⟩
    obtain ⟨p, c, rfl⟩ := hv
    have hc := AnyF.slices_SortFunc_none (P := Tryz.prog) Tryz.sortSp p c (.func (.func 339) #[] #[]) w
    change Calls Tryz.prog 338 _ _ _ at hc
    exact hc.mono fun e w' ⟨he, hw⟩ => by
      subst hw
      exact ⟨he, Kept.refl _ _, [], List.Perm.refl _, List.Pairwise.nil, hcells⟩
  | cons m t =>
    rcases h2 with ⟨_, h0⟩ | ⟨g, cap, cur, rfl, hb, hg, hcap, hmax, hcur, htake⟩
    · simp at h0
    · have hcell := fun j u hu => hcells.cells (g := g) rfl j u hu
      have hblk : g < w.heap.size := (Array.getElem?_eq_some_iff.1 hg).1
      have hH : HoldsK Spn.cells 8 w g 0 (m :: t).toArray := by
        intro j hj
        have hj' : j < (m :: t).length * 8 := by simpa [size_flatK] using hj
        refine ⟨?_, ?_⟩
        · have := hcell j _ (flat_at (m :: t) j hj')
          rw [add_mid] at this
          exact this
        · unfold World.frozen?
          simp [hg]
      have hs8 : (m :: t).toArray.size = (m :: t).length := by simp
      have hc := AnyQ.slices_SortFunc (P := Tryz.prog) Tryz.sortSp 8 agg37 size37 Spn.cells (fun _ => rfl) (fun x u hu => by simp [Spn.cells] at hu; rcases hu with rfl | rfl | rfl | rfl | rfl | rfl | rfl | rfl <;> rfl) cmpS swoS 339 #[] g 0 cap (m :: t).toArray w (enters_of Tryz.func339 (by kernel_rfl) rfl) (fun _ _ _ _ x y => closure_all x y _) hH hblk (by rw [hs8]; exact hl)
      change Calls Tryz.prog 338 _ _ _ at hc
      rw [hs8] at hc
      exact hc.mono fun e w' ⟨he, d', n, os, hp, hsd, hw⟩ => by
        have hsz : d'.size = (m :: t).toArray.size := hp.1
        have hlt : (sortWorldK Spn.cells 8 w g 0 n d' os).heap.size ≥ w.heap.size := by
          unfold sortWorldK; rw [size_grow]; unfold putRowK; rw [size_putRow]; exact Nat.le_add_right _ _
        have hho := holdsK_sortWorldK Spn.cells 8 w g 0 n (m :: t).toArray d' os hblk hH hsz
        subst hw
        refine ⟨he, ⟨rfl, rfl, rfl, hlt, fun k hk hne => ?_⟩, d'.toList, ?_, ?_, ?_⟩
        · have hkg : g ≠ k := fun e => hne (by rw [← e]; rfl)
          unfold sortWorldK grow
          simp only
          rw [Array.getElem?_append_left (by unfold putRowK; rw [size_putRow]; exact hk)]
          unfold putRowK putRow mapBlock
          simp only
          rw [Array.getElem?_modify]
          simp only [hkg, if_false]
          rfl
        · have := perm_of_in (d := (m :: t).toArray) (by rw [hs8]; exact hp)
          simpa using this
        · exact sorted_of_in (by rw [hsz, hs8]; exact hsd)
        · have hgw : (sortWorldK Spn.cells 8 w g 0 n d' os).heap[g]? = some (.cells (putCells id 0 (flatK Spn.cells 8 d') cur) 35 (0, 0)) := by
            unfold sortWorldK grow
            simp only
            rw [Array.getElem?_append_left (by unfold putRowK; rw [size_putRow]; exact hblk)]
            unfold putRowK putRow mapBlock
            simp only
            rw [Array.getElem?_modify]
            simp only [if_true]
            have : (Sort.ahead w n).heap[g]? = some (.cells cur 35 (0, 0)) := hg
            rw [this]
            rfl
          have hln : d'.toList.length = (m :: t).length := by simp [hsz]
          have := own_of_reads (d := d'.toList) hb hgw (by rw [hln]; exact hcap) hmax (by simp only [putCells, Array.size_mapIdx]; exact hcur) (fun j u hu => by
            have hj : j < d'.toList.length * 8 := by rw [← cellsS_length]; exact (List.getElem?_eq_some_iff.1 hu).1
            have h3 := flat_at d'.toList j hj
            rw [hu] at h3
            have h4 := (hho j (by rw [size_flatK]; simpa using hj)).1
            rw [Nat.zero_add] at h4
            rw [h4]
            simp at h3
            simp [h3])
          rw [hln] at this ⊢
          exact this
end Go.Proofs.YtelhdbkkigehgaaGreatDoor

