/- A part of the proof. -/
import Derived.Maps.Own
import Derived.Maps.RangeRun
import Derived.Test.YtelhdbkkigehgaaGreatDoorDs4
import Derived.Test.YtelhdbkkigehgaaGreatDoorDs5

/- Printed by port_model.py out of the Model seat. -/
namespace Go.Proofs.YtelhdbkkigehgaaGreatDoor
open Go.RowKit Go.MapKept Go.Instr Go.ChangeMaps

def spanZ : Value := .agg #[.int .i64 0, .int .i64 0, .int .i64 0, .string ⟨#[]⟩, .string ⟨#[]⟩, .int .i64 0, .int .i64 0, .string ⟨#[]⟩]
theorem z37 (w : World) : (zeroValue 35).run Tryz.prog w = .ok spanZ w := by kernel_rfl
theorem z3 (w : World) : (zeroValue 3).run Tryz.prog w = .ok (.int .i64 0) w := by kernel_rfl
theorem u68 : Tryz.prog.underlying 436 = some (.map 440 35) := Tryz.underlying436
theorem u72 : Tryz.prog.underlying 546 = some (.map 440 3) := Tryz.underlying546
theorem cell_map {w : World} {b j c : Nat} {es : Array MapEntry} (h : w.heap[b]? = some (.map es c)) : w.cell? ⟨b, j, none⟩ = none := by simp [World.cell?, h]
theorem set_same {w : World} {b : Nat} (o : Obj) (h : b < w.heap.size) : (setBlock w b o).heap[b]? = some o := by simp [setBlock, h]
theorem keptFF {a b c : World} (h : Kept (fun _ => False) a b) (k : Kept (fun _ => False) b c) : Kept (fun _ => False) a c := h.trans k (fun _ _ f => f) (fun _ _ f => f)
theorem _root_.Go.ChangeMaps.kept_setBlock {S : Nat → Prop} {a w : World} (h : Kept S a w) {b : Nat} (hb : b < a.heap.size → S b) (o : Obj) : Kept S a (setBlock w b o) :=
  ⟨h.os, h.tape, h.output, by simp [setBlock, h.size], fun k hk hn => by
    have : k ≠ b := fun e => hn (e ▸ hb (e ▸ hk))
    rw [← h.block k hk hn]
    simp [setBlock, this.symm]⟩
theorem info_parts {P : Program} {t : TypeId} {z : Option Value} {s b : Nat} (h : (P.info? t).map (fun i => (i.zero, i.size, i.bytes)) = some (z, s, b)) : ∃ i, P.info? t = some i ∧ i.zero = z ∧ i.size = s ∧ i.bytes = b := by
  cases hi : P.info? t with
  | none => rw [hi] at h; simp at h
  | some i =>
    rw [hi] at h
    simp at h
    exact ⟨i, rfl, h.1, h.2.1, h.2.2⟩
theorem inf37 : (Tryz.prog.info? 35).map (fun i => (i.zero, i.size, i.bytes)) = some (some spanZ, 8, 88) := by kernel_rfl
def keyV (k : Int × Int) : Value := .agg #[.int .i64 k.1, .int .i64 k.2]
abbrev KV := (Int × Int) × Value
/-- The entries of a map into which these were laid one by one, the first one numbered n. -/
def entsL : Nat → List KV → List MapEntry
  | _, [] => []
  | n, p :: t => ⟨keyV p.1, p.2, n⟩ :: entsL (n + 1) t
theorem entsL_length : ∀ (n : Nat) (L : List KV), (entsL n L).length = L.length
  | _, [] => rfl
  | n, p :: t => by simp [entsL, entsL_length (n + 1) t]
theorem entsL_at : ∀ (n : Nat) (L : List KV) (i : Nat), (entsL n L)[i]? = (L[i]?).map (fun p => ⟨keyV p.1, p.2, n + i⟩)
  | _, [], i => by simp [entsL]
  | n, p :: t, 0 => by simp [entsL]
  | n, p :: t, i + 1 => by simp [entsL, entsL_at (n + 1) t i]; congr 1; funext q; simp; omega
theorem entsL_append : ∀ (n : Nat) (L T : List KV), entsL n (L ++ T) = entsL n L ++ entsL (n + L.length) T
  | _, [], T => by simp [entsL]
  | n, p :: t, T => by simp [entsL, entsL_append (n + 1) t T]; congr 1; omega
/-- The place of a key, as it is looked for. -/
def idxL (k : Int × Int) : List KV → Option Nat
  | [] => none
  | p :: t => if k = p.1 then some 0 else (idxL k t).map (· + 1)
theorem idxL_some : ∀ {k : Int × Int} {L : List KV} {i : Nat}, idxL k L = some i → ∃ p, L[i]? = some p ∧ p.1 = k
  | k, [], i, h => by simp [idxL] at h
  | k, p :: t, i, h => by
    unfold idxL at h
    split at h
    · rename_i e; cases h; exact ⟨p, rfl, e.symm⟩
    · cases hi : idxL k t with
      | none => simp [hi] at h
      | some j => simp [hi] at h; subst h; simpa using idxL_some hi
theorem idxL_none : ∀ {k : Int × Int} {L : List KV}, idxL k L = none → ∀ p ∈ L, p.1 ≠ k
  | k, [], h, p, hp => by simp at hp
  | k, q :: t, h, p, hp => by
    unfold idxL at h
    split at h
    · cases h
    · rename_i e
      have h2 : idxL k t = none := by cases hi : idxL k t with
        | none => rfl
        | some j => simp [hi] at h
      rcases List.mem_cons.1 hp with rfl | hp
      · exact fun e2 => e e2.symm
      · exact idxL_none h2 p hp
theorem eq_in (a b c d : Int) (w : World) : (Op.equalIn 10000 440 (.agg #[.int .i64 a, .int .i64 b]) (.agg #[.int .i64 c, .int .i64 d])).run Tryz.prog w = .ok (decide (a = c) && decide (b = d)) w := by
  have q : Tryz.prog.stoodInHeld 440 = false := by kernel_rfl
  by_cases h1 : a = c
  · by_cases h2 : b = d
    · simp [go_sem, q, h1, h2]
    · simp [go_sem, q, h1, h2]
  · simp [go_sem, q, h1]
theorem eqK (k l : Int × Int) (w : World) : (Op.equal 440 (keyV k) (keyV l)).run Tryz.prog w = .ok (decide (k = l)) w := by
  obtain ⟨a, b⟩ := k
  obtain ⟨c, d⟩ := l
  have h := eq_in a b c d w
  have e : decide ((a, b) = (c, d)) = (decide (a = c) && decide (b = d)) := by rw [← Bool.decide_and]; simp only [Prod.mk.injEq]
  rw [e]
  exact h
theorem ask_any (k : Int × Int) (w : World) : ∀ (L : List KV) (n i : Nat), (findAsking 440 (keyV k) (entsL n L) i).run Tryz.prog w = .ok ((idxL k L).map (fun j => (i + j, ((L[j]?).map (·.2)).getD undef))) w
  | [], n, i => by simp [entsL, findAsking, idxL]
  | p :: t, n, i => by
    have ih := ask_any k w t (n + 1) (i + 1)
    unfold entsL findAsking idxL
    simp only [Sem.run_bind, eqK, Result.andThen_ok]
    by_cases e : k = p.1
    · simp [e]
    · simp only [e, decide_false, Bool.false_eq_true, if_false, ih]
      cases hi : idxL k t with
      | none => simp
      | some j => simp; omega
theorem findk_any (k : Int × Int) (w : World) (L : List KV) (n : Nat) : (findKey 440 (keyV k) (entsL n L)).run Tryz.prog w = .ok ((idxL k L).map (fun j => (j, ((L[j]?).map (·.2)).getD undef))) w := by
  have hu : Tryz.prog.underlying 440 = some _ := Tryz.underlying440
  cases L with
  | nil =>
    unfold findKey
    simp only [Sem.run_bind, run_underlying hu, Result.andThen_ok]
    rfl
  | cons p t =>
    have h := ask_any k w (p :: t) n 0
    simp only [Nat.zero_add] at h
    rw [← h]
    unfold findKey
    simp only [Sem.run_bind, run_underlying hu, Result.andThen_ok]
    rfl
theorem ck74 (k : Int × Int) (e : Bool) (w : World) : (checkKey e 10000 440 (keyV k)).run Tryz.prog w = .ok () w := by cases e <;> kernel_rfl
theorem stays_any (k : Int × Int) (w : World) : (keyThatStays (keyV k) (keyV k)).run Tryz.prog w = .ok (keyV k) w := by
  have h : sameBits 10000 (keyV k) (keyV k) = true := by
    obtain ⟨a, b⟩ := k
    simp [keyV, sameBits]
  unfold keyThatStays
  simp [h]
/-- The map of these lies in block b. -/
def MapIs (w : World) (b : Nat) (L : List KV) : Prop := w.heap[b]? = some (.map (entsL 0 L).toArray L.length)
theorem MapIs.lt {w : World} {b : Nat} {L : List KV} (h : MapIs w b L) : b < w.heap.size := (Array.getElem?_eq_some_iff.1 h).1
theorem MapIs.kept {S : Nat → Prop} {w w' : World} {b : Nat} {L : List KV} (h : MapIs w b L) (hK : Kept S w w') (hS : ¬ S b) : MapIs w' b L := (hK.block b h.lt hS).trans h
theorem MapIs.not_cell {w : World} {b j : Nat} {L : List KV} (h : MapIs w b L) : w.cell? ⟨b, j, none⟩ = none := cell_map h
/-- A key's entry: what is there, or z behind the last one. -/
def oldL (k : Int × Int) (z : Value) (L : List KV) : Value := ((idxL k L).map (fun j => ((L[j]?).map (·.2)).getD undef)).getD z
def entL (k : Int × Int) (z : Value) (L : List KV) : List KV := if (idxL k L).isSome then L else L ++ [(k, z)]
def stampL (k : Int × Int) (L : List KV) : Nat := (idxL k L).getD L.length
def putL (k : Int × Int) (v : Value) (L : List KV) : List KV := if (idxL k L).isSome then L.set (stampL k L) (k, v) else L ++ [(k, v)]

theorem look68 {w : World} {b : Nat} {L : List KV} (h : MapIs w b L) (k : Int × Int) : (Instr.lookup 436 (.map (some b)) (keyV k) true).run Tryz.prog w = .ok (.tuple #[oldL k spanZ L, .bool (idxL k L).isSome]) w := by
  have f := findk_any k w L 0
  unfold Instr.lookup
  simp only [Sem.run_bind, run_underlying u68, Go.MapKept.run_getObj_map h, Result.andThen_ok, Sem.run_pure, ck74, f]
  unfold oldL
  cases hi : idxL k L with
  | none => simp [spanZ]
  | some j => simp
theorem look72 {w : World} {b : Nat} {L : List KV} (h : MapIs w b L) (k : Int × Int) : (Instr.lookup 546 (.map (some b)) (keyV k) false).run Tryz.prog w = .ok (oldL k (.int .i64 0) L) w := by
  have f := findk_any k w L 0
  unfold Instr.lookup
  simp only [Sem.run_bind, run_underlying u72, Go.MapKept.run_getObj_map h, Result.andThen_ok, Sem.run_pure, ck74, f]
  unfold oldL
  cases hi : idxL k L with
  | none => simp
  | some j => simp
theorem modify_same {L : List KV} {i : Nat} {p : KV} (h : L[i]? = some p) : (entsL 0 L).toArray.modify i (fun e => { e with key := keyV p.1 }) = (entsL 0 L).toArray := by
  apply Array.ext_getElem?
  intro j
  rw [Array.getElem?_modify]
  split
  · rename_i e; subst e; simp [entsL_at, h]
  · rfl
theorem modify_val {L : List KV} {i : Nat} {p : KV} (v : Value) (h : L[i]? = some p) : (entsL 0 L).toArray.modify i (fun e => { e with val := v }) = (entsL 0 (L.set i (p.1, v))).toArray := by
  apply Array.ext_getElem?
  intro j
  rw [Array.getElem?_modify]
  have hl := (List.getElem?_eq_some_iff.1 h).1
  split
  · rename_i e; subst e
    have h2 : L[i] = p := (List.getElem?_eq_some_iff.1 h).2
    simp [entsL_at, hl, h2]
  · rename_i e; simp [entsL_at, e]
theorem modify_both {L : List KV} {i : Nat} {p : KV} (v : Value) (h : L[i]? = some p) : (entsL 0 L).toArray.modify i (fun e => { e with key := keyV p.1, val := v }) = (entsL 0 (L.set i (p.1, v))).toArray := by
  apply Array.ext_getElem?
  intro j
  rw [Array.getElem?_modify]
  have hl := (List.getElem?_eq_some_iff.1 h).1
  split
  · rename_i e; subst e
    have h2 : L[i] = p := (List.getElem?_eq_some_iff.1 h).2
    simp [entsL_at, hl, h2]
  · rename_i e; simp [entsL_at, e]
theorem push_ents (L : List KV) (k : Int × Int) (v : Value) : (entsL 0 L).toArray.push ⟨keyV k, v, L.length⟩ = (entsL 0 (L ++ [(k, v)])).toArray := by
  rw [entsL_append]; simp [entsL]
theorem entry68 {w : World} {b : Nat} {L : List KV} (h : MapIs w b L) (k : Int × Int) : (Instr.mapEntry 436 (.map (some b)) (keyV k)).run Tryz.prog w = .ok (.tuple #[oldL k spanZ L, .int .i64 (stampL k L)]) (setBlock w b (.map (entsL 0 (entL k spanZ L)).toArray (entL k spanZ L).length)) := by
  have f := findk_any k w L 0
  unfold Instr.mapEntry
  simp only [Sem.run_bind, run_underlying u68, Go.MapKept.run_getObj_map h, Result.andThen_ok, ck74, f]
  unfold oldL entL stampL
  cases hi : idxL k L with
  | none =>
    simp only [Option.map_none, Sem.run_bind, z37, Result.andThen_ok, Go.MapKept.run_setObj_map _ h, push_ents]
    simp [goInt, setBlock]
  | some i =>
    obtain ⟨p, hp, rfl⟩ := idxL_some hi
    have e : (entsL 0 L).toArray[i]? = some ⟨keyV p.1, p.2, i⟩ := by simp [entsL_at, hp]
    simp only [Option.map_some, e, Option.getD_some, Sem.run_bind, stays_any, Result.andThen_ok, Go.MapKept.run_setObj_map _ h, modify_same hp]
    simp [goInt, setBlock]
theorem idx_born (L : List KV) (i : Nat) (h : i < L.length) : (entsL 0 L).toArray.findIdx? (fun e => (e.born : Int) == (i : Int)) = some i := by
  rw [List.findIdx?_toArray, List.findIdx?_eq_some_iff_getElem]
  refine ⟨by rw [entsL_length]; exact h, ?_, fun j hj => ?_⟩
  · have := entsL_at 0 L i
    rw [List.getElem?_eq_getElem (by rw [entsL_length]; exact h), List.getElem?_eq_getElem h] at this
    have := Option.some.inj this
    simp [this]
  · have := entsL_at 0 L j
    rw [List.getElem?_eq_getElem (by rw [entsL_length]; omega), List.getElem?_eq_getElem (by omega)] at this
    have := Option.some.inj this
    simp [this]; omega
theorem ent_at (k : Int × Int) (z : Value) (L : List KV) : ∃ p, (entL k z L)[stampL k L]? = some p ∧ p.1 = k := by
  unfold entL stampL
  cases hi : idxL k L with
  | none => exact ⟨(k, z), by simp, rfl⟩
  | some i => obtain ⟨p, hp, e⟩ := idxL_some hi; exact ⟨p, by simpa using hp, e⟩
theorem put_ent (k : Int × Int) (z v : Value) (L : List KV) : (entL k z L).set (stampL k L) (k, v) = putL k v L := by
  unfold entL putL stampL
  cases hi : idxL k L with
  | none => simp
  | some i => simp
theorem putL_length (k : Int × Int) (z v : Value) (L : List KV) : (putL k v L).length = (entL k z L).length := by rw [← put_ent k z v L]; simp
theorem store68 {w : World} {b : Nat} {L : List KV} {k : Int × Int} {z : Value} (h : MapIs w b (entL k z L)) (v : Value) : (Instr.entryStore 436 (.map (some b)) (.int .i64 (stampL k L)) v).run Tryz.prog w = .ok () (setBlock w b (.map (entsL 0 (putL k v L)).toArray (putL k v L).length)) := by
  obtain ⟨p, hp, rfl⟩ := ent_at k z L
  have hl := (List.getElem?_eq_some_iff.1 hp).1
  unfold Instr.entryStore
  have ha : (asInt (.int .i64 (stampL p.1 L))).run Tryz.prog w = .ok (stampL p.1 L : Int) w := rfl
  simp only [Sem.run_bind, Go.MapKept.run_getObj_map h, Result.andThen_ok, ha, idx_born _ _ hl]
  rw [modify_val v hp, Go.MapKept.run_setObj_map _ h, put_ent, putL_length p.1 z v L]
  rfl
theorem put72 {w : World} {b : Nat} {L : List KV} (h : MapIs w b L) (k : Int × Int) (v : Value) : (Instr.mapUpdate 546 (.map (some b)) (keyV k) v).run Tryz.prog w = .ok () (setBlock w b (.map (entsL 0 (putL k v L)).toArray (putL k v L).length)) := by
  have f := findk_any k w L 0
  unfold Instr.mapUpdate
  simp only [Sem.run_bind, run_underlying u72, Go.MapKept.run_getObj_map h, Result.andThen_ok, ck74, f]
  unfold putL stampL
  cases hi : idxL k L with
  | none =>
    simp only [Option.map_none, Go.MapKept.run_setObj_map _ h, push_ents]
    simp [setBlock]
  | some i =>
    obtain ⟨p, hp, rfl⟩ := idxL_some hi
    have e : (entsL 0 L).toArray[i]? = some ⟨keyV p.1, p.2, i⟩ := by simp [entsL_at, hp]
    simp only [Option.map_some, e, Option.getD_some, Sem.run_bind, stays_any, Result.andThen_ok, modify_both v hp, Go.MapKept.run_setObj_map _ h]
    simp [setBlock]
theorem MapIs.set {w : World} {b : Nat} {L : List KV} (hb : b < w.heap.size) : MapIs (setBlock w b (.map (entsL 0 L).toArray L.length)) b L := set_same _ hb
end Go.Proofs.YtelhdbkkigehgaaGreatDoor

/- Printed by port_model.py out of the Model seat. -/
namespace Go.Proofs.YtelhdbkkigehgaaGreatDoor
open Go.RowKit

def lateB (st now : Int) : Bool := decide (60 ≤ now - st)
theorem late_all (st now : Int) (h0 : 0 ≤ st) (h1 : st ≤ 1073741824) (h2 : 0 ≤ now) (h3 : now ≤ 4294967296) (w : World) : Calls Tryz.prog 252 #[.int .i64 st, .int .i64 now] w fun e w' => e = .returned (.bool (lateB st now)) ∧ w = w' := by
  by_cases h : st ≤ now
  · go_enter Tryz.func252, Tryz.ntmps252
    go_wp2
    go_ret
    exact ⟨by unfold lateB; rfl, rfl⟩
  · go_enter Tryz.func252, Tryz.ntmps252
    go_wp2
    go_ret
    have e : lateB st now = false := by unfold lateB; simp; omega
    exact ⟨by rw [e]; rfl, rfl⟩
set_option maxRecDepth 100000 in
theorem expired_all (m : Spn) (now : Int) (h0 : 0 ≤ m.st) (h1 : m.st ≤ 1073741824) (h2 : 0 ≤ now) (h3 : now ≤ 4294967296) (w : World) : Calls Tryz.prog 213 #[aggS m, .int .i64 now] w fun e w' => e = .returned (.bool (lateB m.st now)) ∧ Kept (fun _ => False) w w' := by
  have L := Lib.hid (late_all m.st now h0 h1 h2 h3)
  unfold aggS
  go_enter Tryz.func213, Tryz.ntmps213
  go_wp2_with (go_at_call 252; refine (L.out _).mono ?_; rintro e w4 ⟨rfl, rfl⟩)
  go_ret
  exact ⟨rfl, (Kept.refl _ w).alloc _⟩
end Go.Proofs.YtelhdbkkigehgaaGreatDoor

/- Printed by port_model.py out of the Model seat. -/
namespace Go.Proofs.YtelhdbkkigehgaaGreatDoor
open Go.RowKit Go.MapKept Go.Instr Go.ChangeMaps

def keyOf (m : Spn) : Int × Int := (m.tr, m.id)
def kvM (M : List Spn) : List KV := M.map (fun m => (keyOf m, aggS m))
def kvS (K : List (Int × Int)) : List KV := K.map (fun k => (k, .int .i64 1))
def lookM (k : Int × Int) : List Spn → Option Spn
  | [] => none
  | m :: t => if k = keyOf m then some m else lookM k t
def putM (s : Spn) : List Spn → List Spn
  | [] => [s]
  | m :: t => if keyOf s = keyOf m then s :: t else m :: putM s t
def zeroS : Spn := ⟨0, 0, 0, ⟨#[]⟩, ⟨#[]⟩, 0, 0, ⟨#[]⟩⟩
theorem idxL_cons (k : Int × Int) (p : KV) (t : List KV) : idxL k (p :: t) = if k = p.1 then some 0 else (idxL k t).map (· + 1) := rfl
theorem oldL_cons (k : Int × Int) (z : Value) (p : KV) (t : List KV) : oldL k z (p :: t) = if k = p.1 then p.2 else oldL k z t := by
  unfold oldL
  rw [idxL_cons]
  by_cases e : k = p.1
  · simp [e]
  · simp only [e, if_false]
    cases hi : idxL k t with
    | none => simp
    | some j => simp
theorem putL_cons (k : Int × Int) (v : Value) (p : KV) (t : List KV) : putL k v (p :: t) = if k = p.1 then (k, v) :: t else p :: putL k v t := by
  unfold putL stampL
  rw [idxL_cons]
  by_cases e : k = p.1
  · simp [e]
  · simp only [e, if_false]
    cases hi : idxL k t with
    | none => simp
    | some j => simp
theorem old_kvM (k : Int × Int) : ∀ M, oldL k spanZ (kvM M) = aggS ((lookM k M).getD zeroS)
  | [] => rfl
  | m :: t => by
    rw [kvM, List.map_cons, oldL_cons, lookM]
    by_cases e : k = keyOf m
    · simp [e]
    · simp only [e, if_false]; exact old_kvM k t
theorem idx_kvM (k : Int × Int) : ∀ M, (idxL k (kvM M)).isSome = (lookM k M).isSome
  | [] => rfl
  | m :: t => by
    rw [kvM, List.map_cons, idxL, lookM]
    by_cases e : k = keyOf m
    · simp [e]
    · simp only [e, if_false, Option.isSome_map]; exact idx_kvM k t
theorem put_kvM (s : Spn) : ∀ M, putL (keyOf s) (aggS s) (kvM M) = kvM (putM s M)
  | [] => rfl
  | m :: t => by
    rw [kvM, List.map_cons, putL_cons, putM]
    by_cases e : keyOf s = keyOf m
    · simp [e, kvM]
    · simp only [e, if_false]; rw [kvM, List.map_cons]; congr 1; exact put_kvM s t
def oneN (b : Bool) : Int := if b then 1 else 0
theorem old_kvS (k : Int × Int) : ∀ K : List (Int × Int), oldL k (.int .i64 0) (kvS K) = .int .i64 (oneN (decide (k ∈ K)))
  | [] => rfl
  | a :: t => by
    rw [kvS, List.map_cons, oldL_cons]
    by_cases e : k = a
    · simp [e, oneN]
    · simp only [e, if_false, List.mem_cons, false_or]; exact old_kvS k t
theorem put_kvS (k : Int × Int) : ∀ K : List (Int × Int), k ∉ K → putL k (.int .i64 1) (kvS K) = kvS (K ++ [k])
  | [], _ => rfl
  | a :: t, h => by
    simp only [List.mem_cons, not_or] at h
    rw [kvS, List.map_cons, putL_cons]
    simp only [h.1, if_false, List.cons_append]; rw [kvS, List.map_cons]; congr 1; exact put_kvS k t h.2
/-- What is there bars a span from coming. -/
def hasB (now : Int) (k : Int × Int) (M : List Spn) : Bool := match lookM k M with
  | some o => !lateB o.st now
  | none => false
def skipB (now : Int) (M : List Spn) (K : List (Int × Int)) (s : Spn) : Bool := !chkB s || lateB s.st now || decide (keyOf s ∈ K) || hasB now (keyOf s) M
def takeF (now : Int) : List Spn → List Spn → List (Int × Int) → List Spn × Nat
  | [], M, _ => (M, 0)
  | s :: t, M, K => if skipB now M K s = true then takeF now t M K else ((takeF now t (putM s M) (K ++ [keyOf s])).1, (takeF now t (putM s M) (K ++ [keyOf s])).2 + 1)
theorem take_skip {now : Int} {s : Spn} {t M : List Spn} {K : List (Int × Int)} (h : skipB now M K s = true) : takeF now (s :: t) M K = takeF now t M K := by rw [takeF, if_pos h]
theorem take_put {now : Int} {s : Spn} {t M : List Spn} {K : List (Int × Int)} (h : skipB now M K s = false) : takeF now (s :: t) M K = ((takeF now t (putM s M) (K ++ [keyOf s])).1, (takeF now t (putM s M) (K ++ [keyOf s])).2 + 1) := by rw [takeF, if_neg (by simp [h])]
theorem take_le (now : Int) : ∀ t M K, (takeF now t M K).2 ≤ t.length
  | [], M, K => Nat.le_refl _
  | s :: t, M, K => by
    cases h : skipB now M K s with
    | true => rw [take_skip h]; have := take_le now t M K; simp; omega
    | false => rw [take_put h]; have := take_le now t (putM s M) (K ++ [keyOf s]); simp; omega
theorem mem_putM {s x : Spn} : ∀ {M : List Spn}, x ∈ putM s M → x = s ∨ x ∈ M
  | [], h => by simp [putM] at h; exact .inl h
  | m :: t, h => by
    rw [putM] at h
    split at h
    · rcases List.mem_cons.1 h with h | h
      · exact .inl h
      · exact .inr (List.mem_cons_of_mem _ h)
    · rcases List.mem_cons.1 h with h | h
      · exact .inr (h ▸ List.mem_cons_self)
      · rcases mem_putM h with h | h
        · exact .inl h
        · exact .inr (List.mem_cons_of_mem _ h)
/-- Spans that may be, no two of the same key. -/
structure Held (M : List Spn) : Prop where
  may : ∀ m ∈ M, chkB m = true
  once : (M.map keyOf).Nodup
theorem keys_putM (s : Spn) : ∀ M : List Spn, (putM s M).map keyOf = if keyOf s ∈ M.map keyOf then M.map keyOf else M.map keyOf ++ [keyOf s]
  | [] => rfl
  | m :: t => by
    rw [putM]
    by_cases e : keyOf s = keyOf m
    · simp [e]
    · simp only [e, if_false, List.map_cons, keys_putM s t, List.mem_cons, false_or]
      split <;> rfl
theorem Held.put {M : List Spn} (h : Held M) {s : Spn} (hs : chkB s = true) : Held (putM s M) := by
  refine ⟨fun m hm => ?_, ?_⟩
  · rcases mem_putM hm with rfl | hm
    · exact hs
    · exact h.may m hm
  · rw [keys_putM]
    split
    · exact h.once
    · rename_i hn
      rw [List.nodup_append]
      refine ⟨h.once, by simp, fun a ha b hb => ?_⟩
      simp at hb; subst hb
      exact fun e => hn (e ▸ ha)
theorem Held.nil : Held [] := ⟨fun m hm => (by cases hm), by simp⟩
theorem skip_chk {now : Int} {M : List Spn} {K : List (Int × Int)} {s : Spn} (h : skipB now M K s = false) : chkB s = true := by
  unfold skipB at h; simp at h; exact h.1.1.1
theorem Held.take {now : Int} : ∀ (t : List Spn) {M : List Spn} {K : List (Int × Int)}, Held M → Held (takeF now t M K).1
  | [], M, K, h => h
  | s :: t, M, K, h => by
    cases hs : skipB now M K s with
    | true => rw [take_skip hs]; exact Held.take t h
    | false => rw [take_put hs]; exact Held.take t (h.put (skip_chk hs))
theorem look_mem {k : Int × Int} : ∀ {M : List Spn} {o : Spn}, lookM k M = some o → o ∈ M ∧ keyOf o = k
  | [], o, h => by simp [lookM] at h
  | m :: t, o, h => by
    rw [lookM] at h
    split at h
    · rename_i e; cases h; exact ⟨List.mem_cons_self, e.symm⟩
    · have := look_mem h; exact ⟨List.mem_cons_of_mem _ this.1, this.2⟩
theorem look_of_mem : ∀ {M : List Spn} {s : Spn}, (M.map keyOf).Nodup → s ∈ M → lookM (keyOf s) M = some s
  | m :: t, s, hn, h => by
    rw [List.map_cons, List.nodup_cons] at hn
    rw [lookM]
    rcases List.mem_cons.1 h with rfl | h
    · simp
    · have : keyOf s ≠ keyOf m := fun e => hn.1 (e ▸ List.mem_map_of_mem h)
      rw [if_neg this]
      exact look_of_mem hn.2 h
/-- Of spans that are there, and have not expired, none is taken. -/
theorem take_again {now : Int} {M : List Spn} (h : Held M) : ∀ (l : List Spn) (K : List (Int × Int)), (∀ s ∈ l, s ∈ M ∧ lateB s.st now = false) → takeF now l M K = (M, 0)
  | [], K, _ => rfl
  | s :: t, K, hl => by
    obtain ⟨h1, h2⟩ := hl s List.mem_cons_self
    have hs : skipB now M K s = true := by
      unfold skipB hasB
      rw [look_of_mem h.once h1]
      simp [h2]
    rw [take_skip hs]
    exact take_again h t K (fun x hx => hl x (List.mem_cons_of_mem _ hx))
theorem len_putM (s : Spn) : ∀ M : List Spn, (putM s M).length ≤ M.length + 1
  | [] => Nat.le_refl _
  | m :: t => by
    rw [putM]
    split
    · simp
    · have := len_putM s t; simp; omega
theorem len_take (now : Int) : ∀ (t M : List Spn) (K : List (Int × Int)), (takeF now t M K).1.length ≤ M.length + t.length
  | [], M, K => Nat.le_refl _
  | s :: t, M, K => by
    cases h : skipB now M K s with
    | true => rw [take_skip h]; have := len_take now t M K; simp; omega
    | false => rw [take_put h]; have := len_take now t (putM s M) (K ++ [keyOf s]); have := len_putM s M; simp; omega
end Go.Proofs.YtelhdbkkigehgaaGreatDoor

