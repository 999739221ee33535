/- A part of the proof. -/
import Derived.Test.YtelhdbkkigehgaaGreatDoorProg
import Derived.Maps.Own
import Derived.Maps.RangeRun
import Derived.Test.YtelhdbkkigehgaaGreatDoorZs4
import Derived.Test.YtelhdbkkigehgaaGreatDoorZs5
import Derived.Test.YtelhdbkkigehgaaGreatDoorZs6

/- desk.kinds() as a map in memory. (Printed by gen_kinds.py.) -/
namespace Go.Proofs.YtelhdbkkigehgaaGreatDoor.Ks
open Go.RowKit Go.MapKept Go.Instr Go.ChangeMaps
theorem cell_map {w : World} {b j c : Nat} {es : Array MapEntry} (h : w.heap[b]? = some (.map es c)) : w.cell? ⟨b, j, none⟩ = none := by simp [World.cell?, h]
theorem set_same {w : World} {b : Nat} (o : Obj) (h : b < w.heap.size) : (setBlock w b o).heap[b]? = some o := by simp [setBlock, h]
theorem uMapN : Tryz.prog.underlying 60 = some (.map 9 62) := Tryz.underlying60
def pairV (a b : Int) : Value := .agg #[.int .i64 a, .int .i64 b]
def keyV (k : ByteArray) : Value := .string k
abbrev KV := ByteArray × Value
/-- The entries of a map into which these were laid one by one, the first one numbered n. -/
def entsL : Nat → List KV → List MapEntry
  | _, [] => []
  | n, p :: t => ⟨keyV p.1, p.2, n⟩ :: entsL (n + 1) t
theorem entsL_length : ∀ (n : Nat) (L : List KV), (entsL n L).length = L.length
  | _, [] => rfl
  | n, p :: t => by simp [entsL, entsL_length (n + 1) t]
theorem entsL_at : ∀ (n : Nat) (L : List KV) (i : Nat), (entsL n L)[i]? = (L[i]?).map (fun p => ⟨keyV p.1, p.2, n + i⟩)
  | _, [], i => by simp [entsL]
  | n, p :: t, 0 => by simp [entsL]
  | n, p :: t, i + 1 => by simp [entsL, entsL_at (n + 1) t i]; congr 1; funext q; simp; omega
theorem entsL_append : ∀ (n : Nat) (L T : List KV), entsL n (L ++ T) = entsL n L ++ entsL (n + L.length) T
  | _, [], T => by simp [entsL]
  | n, p :: t, T => by simp [entsL, entsL_append (n + 1) t T]; congr 1; omega
/-- The place of a key, as it is looked for. -/
def idxL (k : ByteArray) : List KV → Option Nat
  | [] => none
  | p :: t => if k = p.1 then some 0 else (idxL k t).map (· + 1)
theorem idxL_some : ∀ {k : ByteArray} {L : List KV} {i : Nat}, idxL k L = some i → ∃ p, L[i]? = some p ∧ p.1 = k
  | k, [], i, h => by simp [idxL] at h
  | k, p :: t, i, h => by
    unfold idxL at h
    split at h
    · rename_i e; cases h; exact ⟨p, rfl, e.symm⟩
    · cases hi : idxL k t with
      | none => simp [hi] at h
      | some j => simp [hi] at h; subst h; simpa using idxL_some hi
theorem idxL_none : ∀ {k : ByteArray} {L : List KV}, idxL k L = none → ∀ p ∈ L, p.1 ≠ k
  | k, [], h, p, hp => by simp at hp
  | k, q :: t, h, p, hp => by
    unfold idxL at h
    split at h
    · cases h
    · rename_i e
      have h2 : idxL k t = none := by cases hi : idxL k t with
        | none => rfl
        | some j => simp [hi] at h
      rcases List.mem_cons.1 hp with rfl | hp
      · exact fun e2 => e e2.symm
      · exact idxL_none h2 p hp
theorem ba_beq (k l : ByteArray) : (k == l) = decide (k = l) := by
  cases k; cases l
  rw [Bool.eq_iff_iff, decide_eq_true_iff, ByteArray.mk.injEq]
  exact beq_iff_eq (α := Array UInt8)
theorem eqK (k l : ByteArray) (w : World) : (Op.equal 9 (keyV k) (keyV l)).run Tryz.prog w = .ok (decide (k = l)) w := by
  rw [← ba_beq]
  kernel_rfl
theorem now_any (k : ByteArray) : ∀ (L : List KV) (n i : Nat), findNow .string (keyV k) (entsL n L) i = some ((idxL k L).map (fun j => (i + j, ((L[j]?).map (·.2)).getD undef)))
  | [], n, i => by simp [entsL, findNow, idxL]
  | p :: t, n, i => by
    have ih := now_any k t (n + 1) (i + 1)
    have hs : sameNow .string (keyV k) (keyV p.1) = some (k == p.1) := rfl
    unfold entsL findNow idxL
    simp only [hs, ba_beq]
    by_cases e : k = p.1
    · simp [e]
    · simp only [e, decide_false, ih, if_false]
      cases hi : idxL k t with
      | none => simp
      | some j => simp; omega
theorem findk_any (k : ByteArray) (w : World) (L : List KV) (n : Nat) : (findKey 9 (keyV k) (entsL n L)).run Tryz.prog w = .ok ((idxL k L).map (fun j => (j, ((L[j]?).map (·.2)).getD undef))) w := by
  have hu : Tryz.prog.underlying 9 = some .string := Tryz.underlying9
  have h := now_any k L n 0
  simp only [Nat.zero_add] at h
  unfold findKey
  simp only [Sem.run_bind, run_underlying hu, Result.andThen_ok, h]
  rfl
set_option maxRecDepth 100000 in
theorem ckS (k : ByteArray) (e : Bool) (w : World) : (checkKey e 10000 9 (keyV k)).run Tryz.prog w = .ok () w := by cases e <;> kernel_rfl
theorem stays_any (k : ByteArray) (w : World) : (keyThatStays (keyV k) (keyV k)).run Tryz.prog w = .ok (keyV k) w := by
  have h : sameBits 10000 (keyV k) (keyV k) = true := by simp [keyV, sameBits, ba_beq]
  unfold keyThatStays
  simp [h]
/-- The map of these lies in block b. -/
def MapIs (w : World) (b : Nat) (L : List KV) : Prop := w.heap[b]? = some (.map (entsL 0 L).toArray L.length)
theorem MapIs.lt {w : World} {b : Nat} {L : List KV} (h : MapIs w b L) : b < w.heap.size := (Array.getElem?_eq_some_iff.1 h).1
theorem MapIs.kept {S : Nat → Prop} {w w' : World} {b : Nat} {L : List KV} (h : MapIs w b L) (hK : Kept S w w') (hS : ¬ S b) : MapIs w' b L := (hK.block b h.lt hS).trans h
theorem MapIs.not_cell {w : World} {b j : Nat} {L : List KV} (h : MapIs w b L) : w.cell? ⟨b, j, none⟩ = none := cell_map h
/-- A key's entry: what is there, or z behind the last one. -/
def oldL (k : ByteArray) (z : Value) (L : List KV) : Value := ((idxL k L).map (fun j => ((L[j]?).map (·.2)).getD undef)).getD z
def entL (k : ByteArray) (z : Value) (L : List KV) : List KV := if (idxL k L).isSome then L else L ++ [(k, z)]
def stampL (k : ByteArray) (L : List KV) : Nat := (idxL k L).getD L.length
def putK (k : ByteArray) (v : Value) (L : List KV) : List KV := if (idxL k L).isSome then L.set (stampL k L) (k, v) else L ++ [(k, v)]

theorem lookN {w : World} {b : Nat} {L : List KV} (h : MapIs w b L) (k : ByteArray) : (Instr.lookup 60 (.map (some b)) (keyV k) true).run Tryz.prog w = .ok (.tuple #[oldL k (pairV 0 0) L, .bool (idxL k L).isSome]) w := by
  have f := findk_any k w L 0
  unfold Instr.lookup
  simp only [Sem.run_bind, run_underlying uMapN, Go.MapKept.run_getObj_map h, Result.andThen_ok, Sem.run_pure, ckS, f]
  unfold oldL
  cases hi : idxL k L with
  | none => simp [pairV]
  | some j => simp
theorem modify_same {L : List KV} {i : Nat} {p : KV} (h : L[i]? = some p) : (entsL 0 L).toArray.modify i (fun e => { e with key := keyV p.1 }) = (entsL 0 L).toArray := by
  apply Array.ext_getElem?
  intro j
  rw [Array.getElem?_modify]
  split
  · rename_i e; subst e; simp [entsL_at, h]
  · rfl
theorem modify_val {L : List KV} {i : Nat} {p : KV} (v : Value) (h : L[i]? = some p) : (entsL 0 L).toArray.modify i (fun e => { e with val := v }) = (entsL 0 (L.set i (p.1, v))).toArray := by
  apply Array.ext_getElem?
  intro j
  rw [Array.getElem?_modify]
  have hl := (List.getElem?_eq_some_iff.1 h).1
  split
  · rename_i e; subst e
    have h2 : L[i] = p := (List.getElem?_eq_some_iff.1 h).2
    simp [entsL_at, hl, h2]
  · rename_i e; simp [entsL_at, e]
theorem modify_both {L : List KV} {i : Nat} {p : KV} (v : Value) (h : L[i]? = some p) : (entsL 0 L).toArray.modify i (fun e => { e with key := keyV p.1, val := v }) = (entsL 0 (L.set i (p.1, v))).toArray := by
  apply Array.ext_getElem?
  intro j
  rw [Array.getElem?_modify]
  have hl := (List.getElem?_eq_some_iff.1 h).1
  split
  · rename_i e; subst e
    have h2 : L[i] = p := (List.getElem?_eq_some_iff.1 h).2
    simp [entsL_at, hl, h2]
  · rename_i e; simp [entsL_at, e]
theorem push_ents (L : List KV) (k : ByteArray) (v : Value) : (entsL 0 L).toArray.push ⟨keyV k, v, L.length⟩ = (entsL 0 (L ++ [(k, v)])).toArray := by
  rw [entsL_append]; simp [entsL]
theorem idx_born (L : List KV) (i : Nat) (h : i < L.length) : (entsL 0 L).toArray.findIdx? (fun e => (e.born : Int) == (i : Int)) = some i := by
  rw [List.findIdx?_toArray, List.findIdx?_eq_some_iff_getElem]
  refine ⟨by rw [entsL_length]; exact h, ?_, fun j hj => ?_⟩
  · have := entsL_at 0 L i
    rw [List.getElem?_eq_getElem (by rw [entsL_length]; exact h), List.getElem?_eq_getElem h] at this
    have := Option.some.inj this
    simp [this]
  · have := entsL_at 0 L j
    rw [List.getElem?_eq_getElem (by rw [entsL_length]; omega), List.getElem?_eq_getElem (by omega)] at this
    have := Option.some.inj this
    simp [this]; omega
theorem ent_at (k : ByteArray) (z : Value) (L : List KV) : ∃ p, (entL k z L)[stampL k L]? = some p ∧ p.1 = k := by
  unfold entL stampL
  cases hi : idxL k L with
  | none => exact ⟨(k, z), by simp, rfl⟩
  | some i => obtain ⟨p, hp, e⟩ := idxL_some hi; exact ⟨p, by simpa using hp, e⟩
theorem put_ent (k : ByteArray) (z v : Value) (L : List KV) : (entL k z L).set (stampL k L) (k, v) = putK k v L := by
  unfold entL putK stampL
  cases hi : idxL k L with
  | none => simp
  | some i => simp
theorem putK_length (k : ByteArray) (z v : Value) (L : List KV) : (putK k v L).length = (entL k z L).length := by rw [← put_ent k z v L]; simp
theorem putN {w : World} {b : Nat} {L : List KV} (h : MapIs w b L) (k : ByteArray) (v : Value) : (Instr.mapUpdate 60 (.map (some b)) (keyV k) v).run Tryz.prog w = .ok () (setBlock w b (.map (entsL 0 (putK k v L)).toArray (putK k v L).length)) := by
  have f := findk_any k w L 0
  unfold Instr.mapUpdate
  simp only [Sem.run_bind, run_underlying uMapN, Go.MapKept.run_getObj_map h, Result.andThen_ok, ckS, f]
  unfold putK stampL
  cases hi : idxL k L with
  | none =>
    simp only [Option.map_none, Go.MapKept.run_setObj_map _ h, push_ents]
    simp [setBlock]
  | some i =>
    obtain ⟨p, hp, rfl⟩ := idxL_some hi
    have e : (entsL 0 L).toArray[i]? = some ⟨keyV p.1, p.2, i⟩ := by simp [entsL_at, hp]
    simp only [Option.map_some, e, Option.getD_some, Sem.run_bind, stays_any, Result.andThen_ok, modify_both v hp, Go.MapKept.run_setObj_map _ h]
    simp [setBlock]
theorem MapIs.set {w : World} {b : Nat} {L : List KV} (hb : b < w.heap.size) : MapIs (setBlock w b (.map (entsL 0 L).toArray L.length)) b L := set_same _ hb
theorem kept_set {S : Nat → Prop} {a w : World} (h : Kept S a w) {b : Nat} (hb : b < a.heap.size → S b) (o : Obj) : Kept S a (setBlock w b o) :=
  ⟨h.os, h.tape, h.output, by simp [setBlock, h.size], fun k hk hn => by
    have : k ≠ b := fun e => hn (e ▸ hb (e ▸ hk))
    rw [← h.block k hk hn]
    simp [setBlock, this.symm]⟩
/-- A word, its kind, and how many numbers follow. -/
def rows : List (ByteArray × Int × Int) := [(⟨#[108, 111, 103]⟩, 1, 0), (⟨#[115, 121, 110, 99]⟩, 2, 1), (⟨#[114, 111, 116, 97, 116, 101]⟩, 3, 1), (⟨#[114, 101, 116, 97, 105, 110]⟩, 4, 2), (⟨#[100, 97, 101, 109, 111, 110]⟩, 5, 1), (⟨#[116, 105, 99, 107]⟩, 6, 1), (⟨#[100, 101, 108, 105, 118, 101, 114]⟩, 7, 1), (⟨#[100, 111, 117, 98, 108, 101]⟩, 8, 1), (⟨#[108, 111, 115, 101]⟩, 9, 1), (⟨#[102, 108, 117, 115, 104]⟩, 10, 1), (⟨#[99, 111, 109, 112, 97, 99, 116]⟩, 11, 1), (⟨#[115, 112, 108, 105, 116]⟩, 12, 1), (⟨#[109, 101, 114, 103, 101]⟩, 13, 1), (⟨#[116, 114, 105, 109]⟩, 14, 0), (⟨#[99, 114, 97, 115, 104]⟩, 15, -2), (⟨#[102, 97, 105, 108]⟩, 16, -3), (⟨#[114, 101, 115, 116, 97, 114, 116]⟩, 17, 1)]
def kindsL : List KV := rows.map fun r => (r.1, pairV r.2.1 r.2.2)
set_option maxRecDepth 100000 in
set_option maxHeartbeats 4000000 in
theorem kinds_all (w : World) : Calls Tryz.prog 20 #[] w fun e w' => e = .returned (.map (some w.heap.size)) ∧ Kept (fun _ => False) w w' ∧ MapIs w' w.heap.size kindsL := by
  obtain ⟨b, hb⟩ : ∃ b, w.heap.size = b := ⟨_, rfl⟩
  have H0 : MapIs (w.alloc (.map #[] 0)) b (kindsL.take 0) := by unfold MapIs; rw [← hb]; exact heap_alloc_new w _
  have K0 : Kept (fun k => k = b) w (w.alloc (.map #[] 0)) := (Kept.refl _ _).alloc _
  obtain ⟨W0, hW0⟩ : ∃ W, w.alloc (.map #[] 0) = W := ⟨_, rfl⟩
  have mk : (Instr.makeMap 60 none).run Tryz.prog w = .ok (.map (some b)) W0 := by rw [← hW0, ← hb]; kernel_rfl
  rw [hW0] at H0 K0
  have u0 := putN H0 ⟨#[108, 111, 103]⟩ (pairV 1 0)
  rw [show putK ⟨#[108, 111, 103]⟩ (pairV 1 0) (kindsL.take 0) = kindsL.take 1 by rfl] at u0
  have K1 := kept_set K0 (b := b) (fun _ => rfl) (.map (entsL 0 (kindsL.take 1)).toArray (kindsL.take 1).length)
  have H1 : MapIs (setBlock W0 b (.map (entsL 0 (kindsL.take 1)).toArray (kindsL.take 1).length)) b (kindsL.take 1) := MapIs.set H0.lt
  obtain ⟨W1, hW1⟩ : ∃ W, setBlock W0 b (.map (entsL 0 (kindsL.take 1)).toArray (kindsL.take 1).length) = W := ⟨_, rfl⟩
  rw [hW1] at u0 K1 H1
  have u1 := putN H1 ⟨#[115, 121, 110, 99]⟩ (pairV 2 1)
  rw [show putK ⟨#[115, 121, 110, 99]⟩ (pairV 2 1) (kindsL.take 1) = kindsL.take 2 by rfl] at u1
  have K2 := kept_set K1 (b := b) (fun _ => rfl) (.map (entsL 0 (kindsL.take 2)).toArray (kindsL.take 2).length)
  have H2 : MapIs (setBlock W1 b (.map (entsL 0 (kindsL.take 2)).toArray (kindsL.take 2).length)) b (kindsL.take 2) := MapIs.set H1.lt
  obtain ⟨W2, hW2⟩ : ∃ W, setBlock W1 b (.map (entsL 0 (kindsL.take 2)).toArray (kindsL.take 2).length) = W := ⟨_, rfl⟩
  rw [hW2] at u1 K2 H2
  have u2 := putN H2 ⟨#[114, 111, 116, 97, 116, 101]⟩ (pairV 3 1)
  rw [show putK ⟨#[114, 111, 116, 97, 116, 101]⟩ (pairV 3 1) (kindsL.take 2) = kindsL.take 3 by rfl] at u2
  have K3 := kept_set K2 (b := b) (fun _ => rfl) (.map (entsL 0 (kindsL.take 3)).toArray (kindsL.take 3).length)
  have H3 : MapIs (setBlock W2 b (.map (entsL 0 (kindsL.take 3)).toArray (kindsL.take 3).length)) b (kindsL.take 3) := MapIs.set H2.lt
  obtain ⟨W3, hW3⟩ : ∃ W, setBlock W2 b (.map (entsL 0 (kindsL.take 3)).toArray (kindsL.take 3).length) = W := ⟨_, rfl⟩
  rw [hW3] at u2 K3 H3
  have u3 := putN H3 ⟨#[114, 101, 116, 97, 105, 110]⟩ (pairV 4 2)
  rw [show putK ⟨#[114, 101, 116, 97, 105, 110]⟩ (pairV 4 2) (kindsL.take 3) = kindsL.take 4 by rfl] at u3
  have K4 := kept_set K3 (b := b) (fun _ => rfl) (.map (entsL 0 (kindsL.take 4)).toArray (kindsL.take 4).length)
  have H4 : MapIs (setBlock W3 b (.map (entsL 0 (kindsL.take 4)).toArray (kindsL.take 4).length)) b (kindsL.take 4) := MapIs.set H3.lt
  obtain ⟨W4, hW4⟩ : ∃ W, setBlock W3 b (.map (entsL 0 (kindsL.take 4)).toArray (kindsL.take 4).length) = W := ⟨_, rfl⟩
  rw [hW4] at u3 K4 H4
  have u4 := putN H4 ⟨#[100, 97, 101, 109, 111, 110]⟩ (pairV 5 1)
  rw [show putK ⟨#[100, 97, 101, 109, 111, 110]⟩ (pairV 5 1) (kindsL.take 4) = kindsL.take 5 by rfl] at u4
  have K5 := kept_set K4 (b := b) (fun _ => rfl) (.map (entsL 0 (kindsL.take 5)).toArray (kindsL.take 5).length)
  have H5 : MapIs (setBlock W4 b (.map (entsL 0 (kindsL.take 5)).toArray (kindsL.take 5).length)) b (kindsL.take 5) := MapIs.set H4.lt
  obtain ⟨W5, hW5⟩ : ∃ W, setBlock W4 b (.map (entsL 0 (kindsL.take 5)).toArray (kindsL.take 5).length) = W := ⟨_, rfl⟩
  rw [hW5] at u4 K5 H5
  have u5 := putN H5 ⟨#[116, 105, 99, 107]⟩ (pairV 6 1)
  rw [show putK ⟨#[116, 105, 99, 107]⟩ (pairV 6 1) (kindsL.take 5) = kindsL.take 6 by rfl] at u5
  have K6 := kept_set K5 (b := b) (fun _ => rfl) (.map (entsL 0 (kindsL.take 6)).toArray (kindsL.take 6).length)
  have H6 : MapIs (setBlock W5 b (.map (entsL 0 (kindsL.take 6)).toArray (kindsL.take 6).length)) b (kindsL.take 6) := MapIs.set H5.lt
  obtain ⟨W6, hW6⟩ : ∃ W, setBlock W5 b (.map (entsL 0 (kindsL.take 6)).toArray (kindsL.take 6).length) = W := ⟨_, rfl⟩
  rw [hW6] at u5 K6 H6
  have u6 := putN H6 ⟨#[100, 101, 108, 105, 118, 101, 114]⟩ (pairV 7 1)
  rw [show putK ⟨#[100, 101, 108, 105, 118, 101, 114]⟩ (pairV 7 1) (kindsL.take 6) = kindsL.take 7 by rfl] at u6
  have K7 := kept_set K6 (b := b) (fun _ => rfl) (.map (entsL 0 (kindsL.take 7)).toArray (kindsL.take 7).length)
  have H7 : MapIs (setBlock W6 b (.map (entsL 0 (kindsL.take 7)).toArray (kindsL.take 7).length)) b (kindsL.take 7) := MapIs.set H6.lt
  obtain ⟨W7, hW7⟩ : ∃ W, setBlock W6 b (.map (entsL 0 (kindsL.take 7)).toArray (kindsL.take 7).length) = W := ⟨_, rfl⟩
  rw [hW7] at u6 K7 H7
  have u7 := putN H7 ⟨#[100, 111, 117, 98, 108, 101]⟩ (pairV 8 1)
  rw [show putK ⟨#[100, 111, 117, 98, 108, 101]⟩ (pairV 8 1) (kindsL.take 7) = kindsL.take 8 by rfl] at u7
  have K8 := kept_set K7 (b := b) (fun _ => rfl) (.map (entsL 0 (kindsL.take 8)).toArray (kindsL.take 8).length)
  have H8 : MapIs (setBlock W7 b (.map (entsL 0 (kindsL.take 8)).toArray (kindsL.take 8).length)) b (kindsL.take 8) := MapIs.set H7.lt
  obtain ⟨W8, hW8⟩ : ∃ W, setBlock W7 b (.map (entsL 0 (kindsL.take 8)).toArray (kindsL.take 8).length) = W := ⟨_, rfl⟩
  rw [hW8] at u7 K8 H8
  have u8 := putN H8 ⟨#[108, 111, 115, 101]⟩ (pairV 9 1)
  rw [show putK ⟨#[108, 111, 115, 101]⟩ (pairV 9 1) (kindsL.take 8) = kindsL.take 9 by rfl] at u8
  have K9 := kept_set K8 (b := b) (fun _ => rfl) (.map (entsL 0 (kindsL.take 9)).toArray (kindsL.take 9).length)
  have H9 : MapIs (setBlock W8 b (.map (entsL 0 (kindsL.take 9)).toArray (kindsL.take 9).length)) b (kindsL.take 9) := MapIs.set H8.lt
  obtain ⟨W9, hW9⟩ : ∃ W, setBlock W8 b (.map (entsL 0 (kindsL.take 9)).toArray (kindsL.take 9).length) = W := ⟨_, rfl⟩
  rw [hW9] at u8 K9 H9
  have u9 := putN H9 ⟨#[102, 108, 117, 115, 104]⟩ (pairV 10 1)
  rw [show putK ⟨#[102, 108, 117, 115, 104]⟩ (pairV 10 1) (kindsL.take 9) = kindsL.take 10 by rfl] at u9
  have K10 := kept_set K9 (b := b) (fun _ => rfl) (.map (entsL 0 (kindsL.take 10)).toArray (kindsL.take 10).length)
  have H10 : MapIs (setBlock W9 b (.map (entsL 0 (kindsL.take 10)).toArray (kindsL.take 10).length)) b (kindsL.take 10) := MapIs.set H9.lt
  obtain ⟨W10, hW10⟩ : ∃ W, setBlock W9 b (.map (entsL 0 (kindsL.take 10)).toArray (kindsL.take 10).length) = W := ⟨_, rfl⟩
  rw [hW10] at u9 K10 H10
  have u10 := putN H10 ⟨#[99, 111, 109, 112, 97, 99, 116]⟩ (pairV 11 1)
  rw [show putK ⟨#[99, 111, 109, 112, 97, 99, 116]⟩ (pairV 11 1) (kindsL.take 10) = kindsL.take 11 by rfl] at u10
  have K11 := kept_set K10 (b := b) (fun _ => rfl) (.map (entsL 0 (kindsL.take 11)).toArray (kindsL.take 11).length)
  have H11 : MapIs (setBlock W10 b (.map (entsL 0 (kindsL.take 11)).toArray (kindsL.take 11).length)) b (kindsL.take 11) := MapIs.set H10.lt
  obtain ⟨W11, hW11⟩ : ∃ W, setBlock W10 b (.map (entsL 0 (kindsL.take 11)).toArray (kindsL.take 11).length) = W := ⟨_, rfl⟩
  rw [hW11] at u10 K11 H11
  have u11 := putN H11 ⟨#[115, 112, 108, 105, 116]⟩ (pairV 12 1)
  rw [show putK ⟨#[115, 112, 108, 105, 116]⟩ (pairV 12 1) (kindsL.take 11) = kindsL.take 12 by rfl] at u11
  have K12 := kept_set K11 (b := b) (fun _ => rfl) (.map (entsL 0 (kindsL.take 12)).toArray (kindsL.take 12).length)
  have H12 : MapIs (setBlock W11 b (.map (entsL 0 (kindsL.take 12)).toArray (kindsL.take 12).length)) b (kindsL.take 12) := MapIs.set H11.lt
  obtain ⟨W12, hW12⟩ : ∃ W, setBlock W11 b (.map (entsL 0 (kindsL.take 12)).toArray (kindsL.take 12).length) = W := ⟨_, rfl⟩
  rw [hW12] at u11 K12 H12
  have u12 := putN H12 ⟨#[109, 101, 114, 103, 101]⟩ (pairV 13 1)
  rw [show putK ⟨#[109, 101, 114, 103, 101]⟩ (pairV 13 1) (kindsL.take 12) = kindsL.take 13 by rfl] at u12
  have K13 := kept_set K12 (b := b) (fun _ => rfl) (.map (entsL 0 (kindsL.take 13)).toArray (kindsL.take 13).length)
  have H13 : MapIs (setBlock W12 b (.map (entsL 0 (kindsL.take 13)).toArray (kindsL.take 13).length)) b (kindsL.take 13) := MapIs.set H12.lt
  obtain ⟨W13, hW13⟩ : ∃ W, setBlock W12 b (.map (entsL 0 (kindsL.take 13)).toArray (kindsL.take 13).length) = W := ⟨_, rfl⟩
  rw [hW13] at u12 K13 H13
  have u13 := putN H13 ⟨#[116, 114, 105, 109]⟩ (pairV 14 0)
  rw [show putK ⟨#[116, 114, 105, 109]⟩ (pairV 14 0) (kindsL.take 13) = kindsL.take 14 by rfl] at u13
  have K14 := kept_set K13 (b := b) (fun _ => rfl) (.map (entsL 0 (kindsL.take 14)).toArray (kindsL.take 14).length)
  have H14 : MapIs (setBlock W13 b (.map (entsL 0 (kindsL.take 14)).toArray (kindsL.take 14).length)) b (kindsL.take 14) := MapIs.set H13.lt
  obtain ⟨W14, hW14⟩ : ∃ W, setBlock W13 b (.map (entsL 0 (kindsL.take 14)).toArray (kindsL.take 14).length) = W := ⟨_, rfl⟩
  rw [hW14] at u13 K14 H14
  have u14 := putN H14 ⟨#[99, 114, 97, 115, 104]⟩ (pairV 15 (-2))
  rw [show putK ⟨#[99, 114, 97, 115, 104]⟩ (pairV 15 (-2)) (kindsL.take 14) = kindsL.take 15 by rfl] at u14
  have K15 := kept_set K14 (b := b) (fun _ => rfl) (.map (entsL 0 (kindsL.take 15)).toArray (kindsL.take 15).length)
  have H15 : MapIs (setBlock W14 b (.map (entsL 0 (kindsL.take 15)).toArray (kindsL.take 15).length)) b (kindsL.take 15) := MapIs.set H14.lt
  obtain ⟨W15, hW15⟩ : ∃ W, setBlock W14 b (.map (entsL 0 (kindsL.take 15)).toArray (kindsL.take 15).length) = W := ⟨_, rfl⟩
  rw [hW15] at u14 K15 H15
  have u15 := putN H15 ⟨#[102, 97, 105, 108]⟩ (pairV 16 (-3))
  rw [show putK ⟨#[102, 97, 105, 108]⟩ (pairV 16 (-3)) (kindsL.take 15) = kindsL.take 16 by rfl] at u15
  have K16 := kept_set K15 (b := b) (fun _ => rfl) (.map (entsL 0 (kindsL.take 16)).toArray (kindsL.take 16).length)
  have H16 : MapIs (setBlock W15 b (.map (entsL 0 (kindsL.take 16)).toArray (kindsL.take 16).length)) b (kindsL.take 16) := MapIs.set H15.lt
  obtain ⟨W16, hW16⟩ : ∃ W, setBlock W15 b (.map (entsL 0 (kindsL.take 16)).toArray (kindsL.take 16).length) = W := ⟨_, rfl⟩
  rw [hW16] at u15 K16 H16
  have u16 := putN H16 ⟨#[114, 101, 115, 116, 97, 114, 116]⟩ (pairV 17 1)
  rw [show putK ⟨#[114, 101, 115, 116, 97, 114, 116]⟩ (pairV 17 1) (kindsL.take 16) = kindsL.take 17 by rfl] at u16
  have K17 := kept_set K16 (b := b) (fun _ => rfl) (.map (entsL 0 (kindsL.take 17)).toArray (kindsL.take 17).length)
  have H17 : MapIs (setBlock W16 b (.map (entsL 0 (kindsL.take 17)).toArray (kindsL.take 17).length)) b (kindsL.take 17) := MapIs.set H16.lt
  obtain ⟨W17, hW17⟩ : ∃ W, setBlock W16 b (.map (entsL 0 (kindsL.take 17)).toArray (kindsL.take 17).length) = W := ⟨_, rfl⟩
  rw [hW17] at u16 K17 H17
  have HH := Lib.hid H17
  have KK := Lib.hid K17
  clear H1 K1 hW1 H2 K2 hW2 H3 K3 hW3 H4 K4 hW4 H5 K5 hW5 H6 K6 hW6 H7 K7 hW7 H8 K8 hW8 H9 K9 hW9 H10 K10 hW10 H11 K11 hW11 H12 K12 hW12 H13 K13 hW13 H14 K14 hW14 H15 K15 hW15 H16 K16 hW16 H17 K17 hW17
  unfold pairV keyV at u0 u1 u2 u3 u4 u5 u6 u7 u8 u9 u10 u11 u12 u13 u14 u15 u16
  rw [hb]
  go_enter Tryz.func20, Tryz.ntmps20
  go_wp2
  go_ret
  exact ⟨rfl, ⟨KK.out.os, KK.out.tape, KK.out.output, KK.out.size, fun j hj _ => KK.out.block j hj (by omega)⟩, HH.out⟩
end Go.Proofs.YtelhdbkkigehgaaGreatDoor.Ks

/- A word's row: what the desk and the chapter make of the words behind it. -/
namespace Go.Proofs.YtelhdbkkigehgaaGreatDoor
open Go.RowKit

/-- desk.lay of these numbers. -/
def LayOk (k : Int) (ns : List Int) (ki nd nn : Int) (sp : Spn) (ks : List Int) : Prop :=
  ∀ (W : World) (b : Nat) (v : Value), IntsR W b v ns → Calls Tryz.prog 40 #[.int .i64 k, v] W fun e w' => (∃ u, e = .returned u ∧ StepIs w' b u ki nd nn sp ks) ∧ Kept (fun _ => False) W w'
def LenOk (c : Int) (ns : List Int) : Prop := (0 ≤ c ∧ (ns.length : Int) = c) ∨ (c < 0 ∧ -c - 1 ≤ (ns.length : Int))
theorem says_cons {ws : List ByteArray} {ns : List Int} (h : SaysL ws ns) (hl : 1 ≤ ns.length) : ∃ x n wt nt, ws = x :: wt ∧ ns = n :: nt ∧ Says x n ∧ SaysL wt nt := by
  cases ns with
  | nil => simp at hl
  | cons n nt =>
    cases ws with
    | nil => exact h.elim
    | cons x wt => exact ⟨x, n, wt, nt, rfl, rfl, h.1, h.2⟩
theorem says_nil {ws : List ByteArray} {ns : List Int} (h : SaysL ws ns) (hl : ns.length = 0) : ws = [] ∧ ns = [] := by
  cases ns with
  | cons n nt => simp at hl
  | nil =>
    cases ws with
    | nil => exact ⟨rfl, rfl⟩
    | cons x wt => exact h.elim
theorem says_one {ws : List ByteArray} {ns : List Int} (h : SaysL ws ns) (hl : ns.length = 1) : ∃ x n, ws = [x] ∧ ns = [n] ∧ Says x n := by
  obtain ⟨x, n, wt, nt, rfl, rfl, h1, h2⟩ := says_cons h (by omega)
  obtain ⟨rfl, rfl⟩ := says_nil h2 (by simpa using hl)
  exact ⟨x, n, rfl, rfl, h1⟩
theorem says_two {ws : List ByteArray} {ns : List Int} (h : SaysL ws ns) (hl : ns.length = 2) : ∃ x y n m, ws = [x, y] ∧ ns = [n, m] ∧ Says x n ∧ Says y m := by
  obtain ⟨x, n, wt, nt, rfl, rfl, h1, h2⟩ := says_cons h (by omega)
  obtain ⟨y, m, rfl, rfl, h3⟩ := says_one h2 (by simpa using hl)
  exact ⟨x, y, n, m, rfl, rfl, h1, h3⟩
theorem lay_row {name : ByteArray} {k c : Int} (hr : (name, k, c) ∈ Ks.rows) (hk : k ≠ 1) {ws : List ByteArray} {ns : List Int} (hs : SaysL ws ns) (hl : LenOk c ns) (hb : ns.length ≤ 1000000000) :
    ∃ ki nd nn sp ks, StepOk name ws ki nd nn sp ks false ∧ LayOk k ns ki nd nn sp ks ∧ ks.length ≤ ns.length := by
  unfold Ks.rows at hr
  simp only [List.mem_cons, Prod.mk.injEq, List.not_mem_nil, or_false] at hr
  rcases hr with ⟨rfl, rfl, rfl⟩ | ⟨rfl, rfl, rfl⟩ | ⟨rfl, rfl, rfl⟩ | ⟨rfl, rfl, rfl⟩ | ⟨rfl, rfl, rfl⟩ | ⟨rfl, rfl, rfl⟩ | ⟨rfl, rfl, rfl⟩ | ⟨rfl, rfl, rfl⟩ | ⟨rfl, rfl, rfl⟩ | ⟨rfl, rfl, rfl⟩ | ⟨rfl, rfl, rfl⟩ | ⟨rfl, rfl, rfl⟩ | ⟨rfl, rfl, rfl⟩ | ⟨rfl, rfl, rfl⟩ | ⟨rfl, rfl, rfl⟩ | ⟨rfl, rfl, rfl⟩ | ⟨rfl, rfl, rfl⟩
  · exact absurd rfl hk
  · obtain ⟨x, n, rfl, rfl, h⟩ := says_one hs (by unfold LenOk at hl; omega)
    exact ⟨2, n, 0, spZ, [], fun W p s t q => step_sync s h t q, fun W b v i => layd_O (.inl rfl) i, by simp⟩
  · obtain ⟨x, n, rfl, rfl, h⟩ := says_one hs (by unfold LenOk at hl; omega)
    exact ⟨3, n, 0, spZ, [], fun W p s t q => step_rotate s h t q, fun W b v i => layd_O (.inr (.inl rfl)) i, by simp⟩
  · obtain ⟨x, y, n, m, rfl, rfl, h, h2⟩ := says_two hs (by unfold LenOk at hl; omega)
    exact ⟨4, n, m, spZ, [], fun W p s t q => step_retain s h h2 t q, fun W b v i => layd_R i, by simp⟩
  · obtain ⟨x, n, rfl, rfl, h⟩ := says_one hs (by unfold LenOk at hl; omega)
    exact ⟨5, n, 0, spZ, [], fun W p s t q => step_daemon s h t q, fun W b v i => layd_O (.inr (.inr (.inl rfl))) i, by simp⟩
  · obtain ⟨x, n, rfl, rfl, h⟩ := says_one hs (by unfold LenOk at hl; omega)
    exact ⟨6, n, 0, spZ, [], fun W p s t q => step_tick s h t q, fun W b v i => layd_O (.inr (.inr (.inr (.inl rfl)))) i, by simp⟩
  · obtain ⟨x, n, rfl, rfl, h⟩ := says_one hs (by unfold LenOk at hl; omega)
    exact ⟨7, 0, n, spZ, [], fun W p s t q => step_deliver s h t q, fun W b v i => layd_N (.inl rfl) i, by simp⟩
  · obtain ⟨x, n, rfl, rfl, h⟩ := says_one hs (by unfold LenOk at hl; omega)
    exact ⟨8, 0, n, spZ, [], fun W p s t q => step_double s h t q, fun W b v i => layd_N (.inr (.inl rfl)) i, by simp⟩
  · obtain ⟨x, n, rfl, rfl, h⟩ := says_one hs (by unfold LenOk at hl; omega)
    exact ⟨9, 0, n, spZ, [], fun W p s t q => step_lose s h t q, fun W b v i => layd_N (.inr (.inr (.inl rfl))) i, by simp⟩
  · obtain ⟨x, n, rfl, rfl, h⟩ := says_one hs (by unfold LenOk at hl; omega)
    exact ⟨10, 0, n, spZ, [], fun W p s t q => step_flush s h t q, fun W b v i => layd_N (.inr (.inr (.inr (.inl rfl)))) i, by simp⟩
  · obtain ⟨x, n, rfl, rfl, h⟩ := says_one hs (by unfold LenOk at hl; omega)
    exact ⟨11, 0, n, spZ, [], fun W p s t q => step_compact s h t q, fun W b v i => layd_N (.inr (.inr (.inr (.inr (.inl rfl))))) i, by simp⟩
  · obtain ⟨x, n, rfl, rfl, h⟩ := says_one hs (by unfold LenOk at hl; omega)
    exact ⟨12, 0, n, spZ, [], fun W p s t q => step_split s h t q, fun W b v i => layd_N (.inr (.inr (.inr (.inr (.inr (.inl rfl)))))) i, by simp⟩
  · obtain ⟨x, n, rfl, rfl, h⟩ := says_one hs (by unfold LenOk at hl; omega)
    exact ⟨13, 0, n, spZ, [], fun W p s t q => step_merge s h t q, fun W b v i => layd_N (.inr (.inr (.inr (.inr (.inr (.inr rfl)))))) i, by simp⟩
  · obtain ⟨rfl, rfl⟩ := says_nil hs (by unfold LenOk at hl; omega)
    exact ⟨14, 0, 0, spZ, [], fun W p s _ _ => step_trim s, fun W b v i => layd_T i, by simp⟩
  · obtain ⟨x, n, wt, nt, rfl, rfl, h, h2⟩ := says_cons hs (by unfold LenOk at hl; omega)
    exact ⟨15, n, 0, spZ, nt, fun W p s t q => step_crash s h h2 (by simp at hb; omega) t q, fun W b v i => layd_C i, by simp⟩
  · obtain ⟨x, n, wt, nt, rfl, rfl, h, h2⟩ := says_cons hs (by unfold LenOk at hl; omega)
    obtain ⟨y, m, wt, nt, rfl, rfl, h3, h4⟩ := says_cons h2 (by unfold LenOk at hl; simp at hl; omega)
    exact ⟨16, n, m, spZ, nt, fun W p s t q => step_fail s h h3 h4 (by simp at hb; omega) t q, fun W b v i => layd_F i, by simp; omega⟩
  · obtain ⟨x, n, rfl, rfl, h⟩ := says_one hs (by unfold LenOk at hl; omega)
    exact ⟨17, n, 0, spZ, [], fun W p s t q => step_restart s h t q, fun W b v i => layd_O (.inr (.inr (.inr (.inr rfl)))) i, by simp⟩
/-- What is found at a word. -/
theorem kinds_found (name : ByteArray) : (∃ k c, (name, k, c) ∈ Ks.rows ∧ Ks.oldL name (Ks.pairV 0 0) Ks.kindsL = Ks.pairV k c ∧ (Ks.idxL name Ks.kindsL).isSome = true) ∨ (Ks.oldL name (Ks.pairV 0 0) Ks.kindsL = Ks.pairV 0 0 ∧ (Ks.idxL name Ks.kindsL).isSome = false) := by
  unfold Ks.oldL
  cases hi : Ks.idxL name Ks.kindsL with
  | none => exact .inr ⟨rfl, rfl⟩
  | some i =>
    left
    obtain ⟨p, hp, rfl⟩ := Ks.idxL_some hi
    unfold Ks.kindsL at hp ⊢
    rw [List.getElem?_map] at hp
    cases hr : Ks.rows[i]? with
    | none => rw [hr] at hp; simp at hp
    | some r =>
      rw [hr] at hp
      simp at hp
      subst hp
      refine ⟨r.2.1, r.2.2, List.mem_of_getElem? hr, ?_, rfl⟩
      rw [Option.map_some, Option.getD_some, List.getElem?_map, hr]
      rfl
end Go.Proofs.YtelhdbkkigehgaaGreatDoor

/- The desk's number: what a word says. -/
namespace Go.Proofs.YtelhdbkkigehgaaGreatDoor
open Go.RowKit

/-- The variables that are read, where they are read. -/
structure Vr (w : World) : Prop where
  tab : Tab w
  syn : ∃ t fr tp p, w.heap[3]? = some (.cells #[.iface tp p] t fr)
  rng : ∃ t fr tp p, w.heap[4]? = some (.cells #[.iface tp p] t fr)
  ml : ∃ m, w.cell? ⟨0, 0, none⟩ = some (.int .i64 m)
theorem Vr.kept {S : Nat → Prop} {w w' : World} (h : Vr w) (K : Kept S w w') (hS : ∀ k, k ≤ 5 → ¬ S k) : Vr w' := by
  obtain ⟨h1, ⟨t2, f2, tp2, p2, h2⟩, ⟨t3, f3, tp3, p3, h3⟩, ⟨m4, h4⟩⟩ := h
  have g := fun {i o} (hi : i ≤ 5) (e : w.heap[i]? = some o) => (K.block i (Array.getElem?_eq_some_iff.1 e).1 (hS i hi)).trans e
  exact ⟨h1.kept K (hS 5 (by omega)), ⟨_, _, _, _, g (by omega) h2⟩, ⟨_, _, _, _, g (by omega) h3⟩, ⟨m4, K.cell h4 (hS 0 (by omega))⟩⟩
theorem Vr.isSyn {w : World} (h : Vr w) : ∃ tp p, w.var? Tryz.prog "strconv.ErrSyntax" = some #[.iface tp p] := by
  obtain ⟨t, fr, tp, p, h⟩ := h.syn
  refine ⟨tp, p, ?_⟩
  unfold World.var?
  rw [show Tryz.prog.globalNamed "strconv.ErrSyntax" = some 3 by kernel_rfl]
  simp [h]
theorem Vr.isRng {w : World} (h : Vr w) : ∃ tp p, w.var? Tryz.prog "strconv.ErrRange" = some #[.iface tp p] := by
  obtain ⟨t, fr, tp, p, h⟩ := h.rng
  refine ⟨tp, p, ?_⟩
  unfold World.var?
  rw [show Tryz.prog.globalNamed "strconv.ErrRange" = some 4 by kernel_rfl]
  simp [h]
theorem atoi_in {l : List UInt8} {v : Int} (h : Lib.atoiAll l = .ok v) : -9223372036854775808 ≤ v ∧ v ≤ 9223372036854775807 := by
  unfold Lib.atoiAll at h
  split at h
  · cases h
  · dsimp only at h
    split at h
    · cases h
    · cases h
    · split at h
      · cases h
      · split at h
        · cases h
        · cases h
          rename_i h1 h2
          split
          · rename_i hn
            have : ¬ (9223372036854775808 < _) := fun e => h2 ⟨hn, e⟩
            omega
          · rename_i hn
            have : ¬ (9223372036854775808 ≤ _) := fun e => h1 ⟨hn, e⟩
            omega
theorem kept_below {w w' : World} (h : Below w.heap.size w w') : Kept (fun _ => False) w w' := ⟨h.os, h.tape, h.output, h.size, fun k hk _ => h.block k hk⟩
/-- A number is told; if it is said to be one, the word says it. -/
def NumT (e : Ending) (x : ByteArray) : Prop := ∃ (n : Int) (ok : Bool), e = .returned (.tuple #[.int .i64 n, .bool ok]) ∧ (ok = true → Says x n)
theorem NumT.no {x : ByteArray} (n : Int) : NumT (.returned (.tuple #[.int .i64 n, .bool false])) x := ⟨n, false, rfl, fun h => by cases h⟩
set_option maxHeartbeats 2000000 in
set_option maxRecDepth 100000 in
theorem number_all {w : World} {x : ByteArray} (hx : x.size ≤ 1000000000) (E : Vr w) : Calls Tryz.prog 31 #[.string x] w fun e w' => NumT e x ∧ Kept (fun _ => False) w w' := by
  have EE := Lib.hid E
  have HX := Lib.hid hx
  clear E hx
  cases ha : Lib.atoiAll x.data.toList with
  | range =>
    obtain ⟨tp, p, hv⟩ := EE.out.isRng
    have C := Lib.hid (Tryz.strconv_Atoi_range_var x (by have := HX.out; omega) ha tp p w hv)
    clear hv ha
    obtain ⟨st, hst⟩ : ∃ st, Lib.atoiSat x.data.toList = st := ⟨_, rfl⟩
    rw [hst] at C
    clear hst
    go_enter Tryz.func31, Tryz.ntmps31
    go_wp2_with fail
    refine C.out.mono ?_
    rintro e w4 ⟨N, rfl, _, _, hb⟩
    have K := Lib.hid (kept_below hb)
    clear hb
    go_wp2_with fail
    go_ret2
    exact ⟨NumT.no _, K.out⟩
  | ok v =>
    have V := Lib.hid (atoi_in ha)
    have C := Lib.hid (Tryz.strconv_Atoi_ok x (by have := HX.out; omega) v ha w)
    clear ha
    by_cases hl : x.size ≤ 11
    · have i1 : (x.size : Int) ≤ 11 := by omega
      go_enter Tryz.func31, Tryz.ntmps31
      go_wp2_with fail
      refine C.out.mono ?_
      rintro e w4 ⟨rfl, hb⟩
      have k4 : Kept (fun _ => False) w w4 := by
        rcases hb with rfl | ⟨t, rfl⟩
        · exact Kept.refl _ _
        · exact kept_below (Lib.bytesWorld_below w 5 t)
      have K := Lib.hid k4
      clear hb k4
      go_wp2_with fail
      refine (itoa_all v V.out.1 V.out.2 w4 (EE.out.tab.kept K.out (fun f => f))).mono ?_
      rintro e w5 ⟨rfl, k5⟩
      have K5 := Lib.hid (K.out.trans k5 (fun _ _ f => f) (fun _ _ f => f) : Kept (fun _ => False) w w5)
      clear k5
      by_cases hq : itoaB v = x
      · have q1 : ((itoaB v).toList == x.toList) = true := by rw [hq]; simp
        go_wp2_with fail
        go_ret2
        exact ⟨⟨v, true, rfl, fun _ => ⟨hq.symm, hl⟩⟩, K5.out⟩
      · have q1 : ((itoaB v).toList == x.toList) = false := ne_toList hq
        go_wp2_with fail
        go_ret2
        exact ⟨NumT.no _, K5.out⟩
    · have i1 : ¬ (x.size : Int) ≤ 11 := by omega
      go_enter Tryz.func31, Tryz.ntmps31
      go_wp2_with fail
      refine C.out.mono ?_
      rintro e w4 ⟨rfl, hb⟩
      have k4 : Kept (fun _ => False) w w4 := by
        rcases hb with rfl | ⟨t, rfl⟩
        · exact Kept.refl _ _
        · exact kept_below (Lib.bytesWorld_below w 5 t)
      have K := Lib.hid k4
      clear hb k4
      go_wp2_with fail
      go_ret2
      exact ⟨NumT.no _, K.out⟩
  | _ =>
    obtain ⟨tp, p, hv⟩ := EE.out.isSyn
    have C := Lib.hid (Tryz.strconv_Atoi_syntax_var x (by have := HX.out; omega) ⟨fun v e => (by rw [ha] at e; cases e), fun e => (by rw [ha] at e; cases e)⟩ tp p w hv)
    clear hv ha
    go_enter Tryz.func31, Tryz.ntmps31
    go_wp2_with fail
    refine C.out.mono ?_
    rintro e w4 ⟨N, rfl, _, _, hb⟩
    have K := Lib.hid (kept_below hb)
    clear hb
    go_wp2_with fail
    go_ret2
    exact ⟨NumT.no _, K.out⟩
end Go.Proofs.YtelhdbkkigehgaaGreatDoor

/- The desk's row: a word and numbers, as a text of bounded length. -/
namespace Go.Proofs.YtelhdbkkigehgaaGreatDoor
open Go.RowKit

def In64 (n : Int) : Prop := -9223372036854775808 ≤ n ∧ n ≤ 9223372036854775807
theorem digits_short : ∀ (k u : Nat), u < 10 ^ (k + 1) → (Lib.decDigits u).length ≤ k + 1 := by
  intro k
  induction k with
  | zero =>
    intro u h
    rw [Lib.decDigits, dif_pos (by simpa using h)]
    simp
  | succ k ih =>
    intro u h
    rw [Lib.decDigits]
    split
    · simp
    · have h2 : u / 10 < 10 ^ (k + 1) := by
        rw [Nat.pow_succ] at h
        omega
      have := ih (u / 10) h2
      simp; omega
theorem itoa_short {n : Int} (h : In64 n) : (itoaB n).size ≤ 20 := by
  rw [← size_list, itoa_data]
  unfold Lib.itoa
  have hp : (10 : Nat) ^ (18 + 1) = 10000000000000000000 := by decide
  unfold In64 at h
  split
  · have := digits_short 18 n.natAbs (by rw [hp]; omega)
    simp; omega
  · have := digits_short 18 n.toNat (by rw [hp]; omega)
    omega
theorem itoa_pos (n : Int) : 1 ≤ (itoaB n).size := by
  rw [← size_list, itoa_data]
  unfold Lib.itoa
  split
  · simp
  · obtain ⟨c, l, h, _⟩ := digits_head n.toNat
    rw [h]; simp
set_option maxHeartbeats 4000000 in
set_option maxRecDepth 100000 in
theorem row_d {w : World} {b : Nat} {word : ByteArray} {v : Value} {ns : List Int} (R : KeepR w b v ns) (hi : ∀ n ∈ ns, In64 n) (hn : ns.length ≤ 1000) (hw : word.size ≤ 1000000) (T : Tab w) :
    Calls Tryz.prog 21 #[.string word, v] w fun e w' => (∃ s, e = .returned (.string s) ∧ word.size + ns.length * 2 ≤ s.size ∧ s.size ≤ word.size + ns.length * 21) ∧ Kept (fun _ => False) w w' := by
  obtain ⟨ao, cap, rfl, hr⟩ := R
  have RR := Lib.hid hr
  have TT := Lib.hid T
  have HI := Lib.hid hi
  have WS := Lib.hid hw
  obtain ⟨len, hlen⟩ : ∃ l, ns.length = l := ⟨_, rfl⟩
  have HL := Lib.hid hlen
  rw [hlen] at hn ⊢
  clear hr T hi hlen hw
  go_enter Tryz.func21, Tryz.ntmps21
  go_wp2_with fail
  go_loopg [0, 9] len (fun gh t0 t9 wr => ∃ (i : Nat) (s : ByteArray), i + gh = len ∧ t9 = .int .i64 i ∧ t0 = .string s ∧ (word.size + i * 2 ≤ s.size ∧ s.size ≤ word.size + i * 21) ∧ Kept (fun _ => False) w wr)
  case atStart => exact ⟨0, word, by omega, rfl, rfl, by omega, Kept.refl _ _⟩
  case round =>
    obtain ⟨i, s, hgh, rfl, rfl, hs, hk⟩ := hrel
    have HK := Lib.hid hk
    have SZ := Lib.hid hs
    cases gk with
    | zero =>
      have hi : i = len := by omega
      subst hi
      clear hgh hs hk
      go_wp2_with fail
      go_ret
      exact ⟨⟨s, rfl, SZ.out⟩, HK.out⟩
    | succ gk =>
      have hi : i < ns.length := by have := HL.out; omega
      have hne : ¬ ns = [] := fun e => by rw [e] at hi; simp at hi
      obtain ⟨x, hx⟩ : ∃ x, ns[i]? = some x := ⟨_, List.getElem?_eq_getElem hi⟩
      obtain ⟨g, o, rfl, _, hc⟩ := RR.out.resolve_left hne
      have c := hk.cell (hc i x hx) (fun f => f)
      have i1 : ((i : Nat) : Int) < (len : Int) := by have := HL.out; omega
      have i2 : (0 : Int) ≤ (i : Int) := by omega
      have i3' : wrap64 ((i : Int) + 1) = ((i + 1 : Nat) : Int) := by rw [wr_in _ (by omega)]; omega
      have IN := Lib.hid (HI.out x (List.mem_of_getElem? hx))
      have C := Lib.hid (itoa_all x IN.out.1 IN.out.2 wr (TT.out.kept hk (fun f => f)))
      have GH := Lib.hid hgh
      clear hgh hk hi hne hx hc hs
      go_wp2_with fail
      refine C.out.mono ?_
      rintro e w4 ⟨rfl, k4⟩
      have K4 := Lib.hid (HK.out.trans k4 (fun _ _ f => f) (fun _ _ f => f) : Kept (fun _ => False) w w4)
      have z1 := itoa_short IN.out
      have z2 := SZ.out
      have z3 := WS.out
      have f1 : ¬ 9223372036854775807 < 1 + (itoaB x).size := by omega
      have f2 : ¬ 9223372036854775807 < s.size + (1 + (itoaB x).size) := by omega
      clear k4 c z1 z2 z3
      go_wp2_with fail
      go_roundg gk
      case measure => omega
      case rel =>
        refine ⟨i + 1, _, by have := GH.out; omega, rfl, rfl, ?_, K4.out⟩
        have z1 := itoa_short IN.out
        have z4 := itoa_pos x
        have z2 := SZ.out
        simp only [ByteArray.size_append]
        have : (⟨#[32]⟩ : ByteArray).size = 1 := rfl
        omega
end Go.Proofs.YtelhdbkkigehgaaGreatDoor

