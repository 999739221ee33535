/- What the model's maps do, of whatever many entries whose keys are two numbers. Plain laws on one block. -/
import Derived.Test.YtibakmchgppndaaSpn
namespace Go.Proofs.Ytibakmchgppndaa
open Go.RowKit Go.MapKept Go.Instr Go.ChangeMaps

def keyV (k : Int × Int) : Value := .agg #[.int .i64 k.1, .int .i64 k.2]
def aggS (m : Spn) : Value := .agg #[.int .i64 m.tr, .int .i64 m.id, .int .i64 m.pa, .string m.se, .string m.ho, .int .i64 m.st, .int .i64 m.du, .string m.no]
abbrev KV := (Int × Int) × Value
/-- The entries of a map into which these were laid one by one, the first one numbered n. -/
def entsL : Nat → List KV → List MapEntry
  | _, [] => []
  | n, p :: t => ⟨keyV p.1, p.2, n⟩ :: entsL (n + 1) t
theorem entsL_length : ∀ (n : Nat) (L : List KV), (entsL n L).length = L.length
  | _, [] => rfl
  | n, p :: t => by simp [entsL, entsL_length (n + 1) t]
theorem entsL_at : ∀ (n : Nat) (L : List KV) (i : Nat), (entsL n L)[i]? = (L[i]?).map (fun p => ⟨keyV p.1, p.2, n + i⟩)
  | _, [], i => by simp [entsL]
  | n, p :: t, 0 => by simp [entsL]
  | n, p :: t, i + 1 => by simp [entsL, entsL_at (n + 1) t i]; congr 1; funext q; simp; omega
theorem entsL_append : ∀ (n : Nat) (L T : List KV), entsL n (L ++ T) = entsL n L ++ entsL (n + L.length) T
  | _, [], T => by simp [entsL]
  | n, p :: t, T => by simp [entsL, entsL_append (n + 1) t T]; congr 1; omega
/-- The place of a key, as it is looked for. -/
def idxL (k : Int × Int) : List KV → Option Nat
  | [] => none
  | p :: t => if k = p.1 then some 0 else (idxL k t).map (· + 1)
theorem idxL_some : ∀ {k : Int × Int} {L : List KV} {i : Nat}, idxL k L = some i → ∃ p, L[i]? = some p ∧ p.1 = k
  | k, [], i, h => by simp [idxL] at h
  | k, p :: t, i, h => by
    unfold idxL at h
    split at h
    · rename_i e; cases h; exact ⟨p, rfl, e.symm⟩
    · cases hi : idxL k t with
      | none => simp [hi] at h
      | some j => simp [hi] at h; subst h; simpa using idxL_some hi
theorem idxL_none : ∀ {k : Int × Int} {L : List KV}, idxL k L = none → ∀ p ∈ L, p.1 ≠ k
  | k, [], h, p, hp => by simp at hp
  | k, q :: t, h, p, hp => by
    unfold idxL at h
    split at h
    · cases h
    · rename_i e
      have h2 : idxL k t = none := by cases hi : idxL k t with
        | none => rfl
        | some j => simp [hi] at h
      rcases List.mem_cons.1 hp with rfl | hp
      · exact fun e2 => e e2.symm
      · exact idxL_none h2 p hp
theorem eq_in (a b c d : Int) (w : World) : (Op.equalIn 10000 74 (.agg #[.int .i64 a, .int .i64 b]) (.agg #[.int .i64 c, .int .i64 d])).run Try.prog w = .ok (decide (a = c) && decide (b = d)) w := by
  have q : Try.prog.stoodInHeld 74 = false := by kernel_rfl
  by_cases h1 : a = c
  · by_cases h2 : b = d
    · simp [go_sem, q, h1, h2]
    · simp [go_sem, q, h1, h2]
  · simp [go_sem, q, h1]
theorem eqK (k l : Int × Int) (w : World) : (Op.equal 74 (keyV k) (keyV l)).run Try.prog w = .ok (decide (k = l)) w := by
  obtain ⟨a, b⟩ := k
  obtain ⟨c, d⟩ := l
  have h := eq_in a b c d w
  have e : decide ((a, b) = (c, d)) = (decide (a = c) && decide (b = d)) := by rw [← Bool.decide_and]; simp only [Prod.mk.injEq]
  rw [e]
  exact h
theorem ask_any (k : Int × Int) (w : World) : ∀ (L : List KV) (n i : Nat), (findAsking 74 (keyV k) (entsL n L) i).run Try.prog w = .ok ((idxL k L).map (fun j => (i + j, ((L[j]?).map (·.2)).getD undef))) w
  | [], n, i => by simp [entsL, findAsking, idxL]
  | p :: t, n, i => by
    have ih := ask_any k w t (n + 1) (i + 1)
    unfold entsL findAsking idxL
    simp only [Sem.run_bind, eqK, Result.andThen_ok]
    by_cases e : k = p.1
    · simp [e]
    · simp only [e, decide_false, Bool.false_eq_true, if_false, ih]
      cases hi : idxL k t with
      | none => simp
      | some j => simp; omega
theorem findk_any (k : Int × Int) (w : World) (L : List KV) (n : Nat) : (findKey 74 (keyV k) (entsL n L)).run Try.prog w = .ok ((idxL k L).map (fun j => (j, ((L[j]?).map (·.2)).getD undef))) w := by
  have hu : Try.prog.underlying 74 = some _ := Try.underlying74
  cases L with
  | nil =>
    unfold findKey
    simp only [Sem.run_bind, run_underlying hu, Result.andThen_ok]
    rfl
  | cons p t =>
    have h := ask_any k w (p :: t) n 0
    simp only [Nat.zero_add] at h
    rw [← h]
    unfold findKey
    simp only [Sem.run_bind, run_underlying hu, Result.andThen_ok]
    rfl
theorem ck74 (k : Int × Int) (e : Bool) (w : World) : (checkKey e 10000 74 (keyV k)).run Try.prog w = .ok () w := by cases e <;> kernel_rfl
theorem stays_any (k : Int × Int) (w : World) : (keyThatStays (keyV k) (keyV k)).run Try.prog w = .ok (keyV k) w := by
  have h : sameBits 10000 (keyV k) (keyV k) = true := by
    obtain ⟨a, b⟩ := k
    simp [keyV, sameBits]
  unfold keyThatStays
  simp [h]
/-- The map of these lies in block b. -/
def MapIs (w : World) (b : Nat) (L : List KV) : Prop := w.heap[b]? = some (.map (entsL 0 L).toArray L.length)
theorem MapIs.lt {w : World} {b : Nat} {L : List KV} (h : MapIs w b L) : b < w.heap.size := (Array.getElem?_eq_some_iff.1 h).1
theorem MapIs.kept {S : Nat → Prop} {w w' : World} {b : Nat} {L : List KV} (h : MapIs w b L) (hK : Kept S w w') (hS : ¬ S b) : MapIs w' b L := (hK.block b h.lt hS).trans h
theorem MapIs.not_cell {w : World} {b j : Nat} {L : List KV} (h : MapIs w b L) : w.cell? ⟨b, j, none⟩ = none := cell_map h
/-- A key's entry: what is there, or z behind the last one. -/
def oldL (k : Int × Int) (z : Value) (L : List KV) : Value := ((idxL k L).map (fun j => ((L[j]?).map (·.2)).getD undef)).getD z
def entL (k : Int × Int) (z : Value) (L : List KV) : List KV := if (idxL k L).isSome then L else L ++ [(k, z)]
def stampL (k : Int × Int) (L : List KV) : Nat := (idxL k L).getD L.length
def putL (k : Int × Int) (v : Value) (L : List KV) : List KV := if (idxL k L).isSome then L.set (stampL k L) (k, v) else L ++ [(k, v)]

theorem look68 {w : World} {b : Nat} {L : List KV} (h : MapIs w b L) (k : Int × Int) : (Instr.lookup 68 (.map (some b)) (keyV k) true).run Try.prog w = .ok (.tuple #[oldL k spanZ L, .bool (idxL k L).isSome]) w := by
  have f := findk_any k w L 0
  unfold Instr.lookup
  simp only [Sem.run_bind, run_underlying u68, Go.MapKept.run_getObj_map h, Result.andThen_ok, Sem.run_pure, ck74, f]
  unfold oldL
  cases hi : idxL k L with
  | none => simp [spanZ]
  | some j => simp
theorem look72 {w : World} {b : Nat} {L : List KV} (h : MapIs w b L) (k : Int × Int) : (Instr.lookup 72 (.map (some b)) (keyV k) false).run Try.prog w = .ok (oldL k (.int .i64 0) L) w := by
  have f := findk_any k w L 0
  unfold Instr.lookup
  simp only [Sem.run_bind, run_underlying u72, Go.MapKept.run_getObj_map h, Result.andThen_ok, Sem.run_pure, ck74, f]
  unfold oldL
  cases hi : idxL k L with
  | none => simp
  | some j => simp
theorem modify_same {L : List KV} {i : Nat} {p : KV} (h : L[i]? = some p) : (entsL 0 L).toArray.modify i (fun e => { e with key := keyV p.1 }) = (entsL 0 L).toArray := by
  apply Array.ext_getElem?
  intro j
  rw [Array.getElem?_modify]
  split
  · rename_i e; subst e; simp [entsL_at, h]
  · rfl
theorem modify_val {L : List KV} {i : Nat} {p : KV} (v : Value) (h : L[i]? = some p) : (entsL 0 L).toArray.modify i (fun e => { e with val := v }) = (entsL 0 (L.set i (p.1, v))).toArray := by
  apply Array.ext_getElem?
  intro j
  rw [Array.getElem?_modify]
  have hl := (List.getElem?_eq_some_iff.1 h).1
  split
  · rename_i e; subst e
    have h2 : L[i] = p := (List.getElem?_eq_some_iff.1 h).2
    simp [entsL_at, hl, h2]
  · rename_i e; simp [entsL_at, e]
theorem modify_both {L : List KV} {i : Nat} {p : KV} (v : Value) (h : L[i]? = some p) : (entsL 0 L).toArray.modify i (fun e => { e with key := keyV p.1, val := v }) = (entsL 0 (L.set i (p.1, v))).toArray := by
  apply Array.ext_getElem?
  intro j
  rw [Array.getElem?_modify]
  have hl := (List.getElem?_eq_some_iff.1 h).1
  split
  · rename_i e; subst e
    have h2 : L[i] = p := (List.getElem?_eq_some_iff.1 h).2
    simp [entsL_at, hl, h2]
  · rename_i e; simp [entsL_at, e]
theorem push_ents (L : List KV) (k : Int × Int) (v : Value) : (entsL 0 L).toArray.push ⟨keyV k, v, L.length⟩ = (entsL 0 (L ++ [(k, v)])).toArray := by
  rw [entsL_append]; simp [entsL]
theorem entry68 {w : World} {b : Nat} {L : List KV} (h : MapIs w b L) (k : Int × Int) : (Instr.mapEntry 68 (.map (some b)) (keyV k)).run Try.prog w = .ok (.tuple #[oldL k spanZ L, .int .i64 (stampL k L)]) (setBlock w b (.map (entsL 0 (entL k spanZ L)).toArray (entL k spanZ L).length)) := by
  have f := findk_any k w L 0
  unfold Instr.mapEntry
  simp only [Sem.run_bind, run_underlying u68, Go.MapKept.run_getObj_map h, Result.andThen_ok, ck74, f]
  unfold oldL entL stampL
  cases hi : idxL k L with
  | none =>
    simp only [Option.map_none, Sem.run_bind, z37, Result.andThen_ok, Go.MapKept.run_setObj_map _ h, push_ents]
    simp [goInt, setBlock]
  | some i =>
    obtain ⟨p, hp, rfl⟩ := idxL_some hi
    have e : (entsL 0 L).toArray[i]? = some ⟨keyV p.1, p.2, i⟩ := by simp [entsL_at, hp]
    simp only [Option.map_some, e, Option.getD_some, Sem.run_bind, stays_any, Result.andThen_ok, Go.MapKept.run_setObj_map _ h, modify_same hp]
    simp [goInt, setBlock]
theorem idx_born (L : List KV) (i : Nat) (h : i < L.length) : (entsL 0 L).toArray.findIdx? (fun e => (e.born : Int) == (i : Int)) = some i := by
  rw [List.findIdx?_toArray, List.findIdx?_eq_some_iff_getElem]
  refine ⟨by rw [entsL_length]; exact h, ?_, fun j hj => ?_⟩
  · have := entsL_at 0 L i
    rw [List.getElem?_eq_getElem (by rw [entsL_length]; exact h), List.getElem?_eq_getElem h] at this
    have := Option.some.inj this
    simp [this]
  · have := entsL_at 0 L j
    rw [List.getElem?_eq_getElem (by rw [entsL_length]; omega), List.getElem?_eq_getElem (by omega)] at this
    have := Option.some.inj this
    simp [this]; omega
theorem ent_at (k : Int × Int) (z : Value) (L : List KV) : ∃ p, (entL k z L)[stampL k L]? = some p ∧ p.1 = k := by
  unfold entL stampL
  cases hi : idxL k L with
  | none => exact ⟨(k, z), by simp, rfl⟩
  | some i => obtain ⟨p, hp, e⟩ := idxL_some hi; exact ⟨p, by simpa using hp, e⟩
theorem put_ent (k : Int × Int) (z v : Value) (L : List KV) : (entL k z L).set (stampL k L) (k, v) = putL k v L := by
  unfold entL putL stampL
  cases hi : idxL k L with
  | none => simp
  | some i => simp
theorem putL_length (k : Int × Int) (z v : Value) (L : List KV) : (putL k v L).length = (entL k z L).length := by rw [← put_ent k z v L]; simp
theorem store68 {w : World} {b : Nat} {L : List KV} {k : Int × Int} {z : Value} (h : MapIs w b (entL k z L)) (v : Value) : (Instr.entryStore 68 (.map (some b)) (.int .i64 (stampL k L)) v).run Try.prog w = .ok () (setBlock w b (.map (entsL 0 (putL k v L)).toArray (putL k v L).length)) := by
  obtain ⟨p, hp, rfl⟩ := ent_at k z L
  have hl := (List.getElem?_eq_some_iff.1 hp).1
  unfold Instr.entryStore
  have ha : (asInt (.int .i64 (stampL p.1 L))).run Try.prog w = .ok (stampL p.1 L : Int) w := rfl
  simp only [Sem.run_bind, Go.MapKept.run_getObj_map h, Result.andThen_ok, ha, idx_born _ _ hl]
  rw [modify_val v hp, Go.MapKept.run_setObj_map _ h, put_ent, putL_length p.1 z v L]
  rfl
theorem put72 {w : World} {b : Nat} {L : List KV} (h : MapIs w b L) (k : Int × Int) (v : Value) : (Instr.mapUpdate 72 (.map (some b)) (keyV k) v).run Try.prog w = .ok () (setBlock w b (.map (entsL 0 (putL k v L)).toArray (putL k v L).length)) := by
  have f := findk_any k w L 0
  unfold Instr.mapUpdate
  simp only [Sem.run_bind, run_underlying u72, Go.MapKept.run_getObj_map h, Result.andThen_ok, ck74, f]
  unfold putL stampL
  cases hi : idxL k L with
  | none =>
    simp only [Option.map_none, Go.MapKept.run_setObj_map _ h, push_ents]
    simp [setBlock]
  | some i =>
    obtain ⟨p, hp, rfl⟩ := idxL_some hi
    have e : (entsL 0 L).toArray[i]? = some ⟨keyV p.1, p.2, i⟩ := by simp [entsL_at, hp]
    simp only [Option.map_some, e, Option.getD_some, Sem.run_bind, stays_any, Result.andThen_ok, modify_both v hp, Go.MapKept.run_setObj_map _ h]
    simp [setBlock]
theorem MapIs.set {w : World} {b : Nat} {L : List KV} (hb : b < w.heap.size) : MapIs (setBlock w b (.map (entsL 0 L).toArray L.length)) b L := set_same _ hb
end Go.Proofs.Ytibakmchgppndaa
