/- What a model holds, and what it takes: plain lists. -/
import Derived.Test.YtibakmchgppndaaLate
import Derived.Test.YtibakmchgppndaaChkA
namespace Go.Proofs.Ytibakmchgppndaa
open Go.RowKit Go.MapKept Go.Instr Go.ChangeMaps

def keyOf (m : Spn) : Int × Int := (m.tr, m.id)
def kvM (M : List Spn) : List KV := M.map (fun m => (keyOf m, aggS m))
def kvS (K : List (Int × Int)) : List KV := K.map (fun k => (k, .int .i64 1))
def lookM (k : Int × Int) : List Spn → Option Spn
  | [] => none
  | m :: t => if k = keyOf m then some m else lookM k t
def putM (s : Spn) : List Spn → List Spn
  | [] => [s]
  | m :: t => if keyOf s = keyOf m then s :: t else m :: putM s t
def zeroS : Spn := ⟨0, 0, 0, ⟨#[]⟩, ⟨#[]⟩, 0, 0, ⟨#[]⟩⟩
theorem idxL_cons (k : Int × Int) (p : KV) (t : List KV) : idxL k (p :: t) = if k = p.1 then some 0 else (idxL k t).map (· + 1) := rfl
theorem oldL_cons (k : Int × Int) (z : Value) (p : KV) (t : List KV) : oldL k z (p :: t) = if k = p.1 then p.2 else oldL k z t := by
  unfold oldL
  rw [idxL_cons]
  by_cases e : k = p.1
  · simp [e]
  · simp only [e, if_false]
    cases hi : idxL k t with
    | none => simp
    | some j => simp
theorem putL_cons (k : Int × Int) (v : Value) (p : KV) (t : List KV) : putL k v (p :: t) = if k = p.1 then (k, v) :: t else p :: putL k v t := by
  unfold putL stampL
  rw [idxL_cons]
  by_cases e : k = p.1
  · simp [e]
  · simp only [e, if_false]
    cases hi : idxL k t with
    | none => simp
    | some j => simp
theorem old_kvM (k : Int × Int) : ∀ M, oldL k spanZ (kvM M) = aggS ((lookM k M).getD zeroS)
  | [] => rfl
  | m :: t => by
    rw [kvM, List.map_cons, oldL_cons, lookM]
    by_cases e : k = keyOf m
    · simp [e]
    · simp only [e, if_false]; exact old_kvM k t
theorem idx_kvM (k : Int × Int) : ∀ M, (idxL k (kvM M)).isSome = (lookM k M).isSome
  | [] => rfl
  | m :: t => by
    rw [kvM, List.map_cons, idxL, lookM]
    by_cases e : k = keyOf m
    · simp [e]
    · simp only [e, if_false, Option.isSome_map]; exact idx_kvM k t
theorem put_kvM (s : Spn) : ∀ M, putL (keyOf s) (aggS s) (kvM M) = kvM (putM s M)
  | [] => rfl
  | m :: t => by
    rw [kvM, List.map_cons, putL_cons, putM]
    by_cases e : keyOf s = keyOf m
    · simp [e, kvM]
    · simp only [e, if_false]; rw [kvM, List.map_cons]; congr 1; exact put_kvM s t
def oneN (b : Bool) : Int := if b then 1 else 0
theorem old_kvS (k : Int × Int) : ∀ K : List (Int × Int), oldL k (.int .i64 0) (kvS K) = .int .i64 (oneN (decide (k ∈ K)))
  | [] => rfl
  | a :: t => by
    rw [kvS, List.map_cons, oldL_cons]
    by_cases e : k = a
    · simp [e, oneN]
    · simp only [e, if_false, List.mem_cons, false_or]; exact old_kvS k t
theorem put_kvS (k : Int × Int) : ∀ K : List (Int × Int), k ∉ K → putL k (.int .i64 1) (kvS K) = kvS (K ++ [k])
  | [], _ => rfl
  | a :: t, h => by
    simp only [List.mem_cons, not_or] at h
    rw [kvS, List.map_cons, putL_cons]
    simp only [h.1, if_false, List.cons_append]; rw [kvS, List.map_cons]; congr 1; exact put_kvS k t h.2
/-- What is there bars a span from coming. -/
def hasB (now : Int) (k : Int × Int) (M : List Spn) : Bool := match lookM k M with
  | some o => !lateB o.st now
  | none => false
def skipB (now : Int) (M : List Spn) (K : List (Int × Int)) (s : Spn) : Bool := !chkB s || lateB s.st now || decide (keyOf s ∈ K) || hasB now (keyOf s) M
def takeF (now : Int) : List Spn → List Spn → List (Int × Int) → List Spn × Nat
  | [], M, _ => (M, 0)
  | s :: t, M, K => if skipB now M K s = true then takeF now t M K else ((takeF now t (putM s M) (K ++ [keyOf s])).1, (takeF now t (putM s M) (K ++ [keyOf s])).2 + 1)
theorem take_skip {now : Int} {s : Spn} {t M : List Spn} {K : List (Int × Int)} (h : skipB now M K s = true) : takeF now (s :: t) M K = takeF now t M K := by rw [takeF, if_pos h]
theorem take_put {now : Int} {s : Spn} {t M : List Spn} {K : List (Int × Int)} (h : skipB now M K s = false) : takeF now (s :: t) M K = ((takeF now t (putM s M) (K ++ [keyOf s])).1, (takeF now t (putM s M) (K ++ [keyOf s])).2 + 1) := by rw [takeF, if_neg (by simp [h])]
theorem take_le (now : Int) : ∀ t M K, (takeF now t M K).2 ≤ t.length
  | [], M, K => Nat.le_refl _
  | s :: t, M, K => by
    cases h : skipB now M K s with
    | true => rw [take_skip h]; have := take_le now t M K; simp; omega
    | false => rw [take_put h]; have := take_le now t (putM s M) (K ++ [keyOf s]); simp; omega
theorem mem_putM {s x : Spn} : ∀ {M : List Spn}, x ∈ putM s M → x = s ∨ x ∈ M
  | [], h => by simp [putM] at h; exact .inl h
  | m :: t, h => by
    rw [putM] at h
    split at h
    · rcases List.mem_cons.1 h with h | h
      · exact .inl h
      · exact .inr (List.mem_cons_of_mem _ h)
    · rcases List.mem_cons.1 h with h | h
      · exact .inr (h ▸ List.mem_cons_self)
      · rcases mem_putM h with h | h
        · exact .inl h
        · exact .inr (List.mem_cons_of_mem _ h)
/-- Spans that may be, no two of the same key. -/
structure Held (M : List Spn) : Prop where
  may : ∀ m ∈ M, chkB m = true
  once : (M.map keyOf).Nodup
theorem keys_putM (s : Spn) : ∀ M : List Spn, (putM s M).map keyOf = if keyOf s ∈ M.map keyOf then M.map keyOf else M.map keyOf ++ [keyOf s]
  | [] => rfl
  | m :: t => by
    rw [putM]
    by_cases e : keyOf s = keyOf m
    · simp [e]
    · simp only [e, if_false, List.map_cons, keys_putM s t, List.mem_cons, false_or]
      split <;> rfl
theorem Held.put {M : List Spn} (h : Held M) {s : Spn} (hs : chkB s = true) : Held (putM s M) := by
  refine ⟨fun m hm => ?_, ?_⟩
  · rcases mem_putM hm with rfl | hm
    · exact hs
    · exact h.may m hm
  · rw [keys_putM]
    split
    · exact h.once
    · rename_i hn
      rw [List.nodup_append]
      refine ⟨h.once, by simp, fun a ha b hb => ?_⟩
      simp at hb; subst hb
      exact fun e => hn (e ▸ ha)
theorem Held.nil : Held [] := ⟨fun m hm => (by cases hm), by simp⟩
theorem skip_chk {now : Int} {M : List Spn} {K : List (Int × Int)} {s : Spn} (h : skipB now M K s = false) : chkB s = true := by
  unfold skipB at h; simp at h; exact h.1.1.1
theorem Held.take {now : Int} : ∀ (t : List Spn) {M : List Spn} {K : List (Int × Int)}, Held M → Held (takeF now t M K).1
  | [], M, K, h => h
  | s :: t, M, K, h => by
    cases hs : skipB now M K s with
    | true => rw [take_skip hs]; exact Held.take t h
    | false => rw [take_put hs]; exact Held.take t (h.put (skip_chk hs))
theorem look_mem {k : Int × Int} : ∀ {M : List Spn} {o : Spn}, lookM k M = some o → o ∈ M ∧ keyOf o = k
  | [], o, h => by simp [lookM] at h
  | m :: t, o, h => by
    rw [lookM] at h
    split at h
    · rename_i e; cases h; exact ⟨List.mem_cons_self, e.symm⟩
    · have := look_mem h; exact ⟨List.mem_cons_of_mem _ this.1, this.2⟩
theorem look_of_mem : ∀ {M : List Spn} {s : Spn}, (M.map keyOf).Nodup → s ∈ M → lookM (keyOf s) M = some s
  | m :: t, s, hn, h => by
    rw [List.map_cons, List.nodup_cons] at hn
    rw [lookM]
    rcases List.mem_cons.1 h with rfl | h
    · simp
    · have : keyOf s ≠ keyOf m := fun e => hn.1 (e ▸ List.mem_map_of_mem h)
      rw [if_neg this]
      exact look_of_mem hn.2 h
/-- Of spans that are there, and have not expired, none is taken. -/
theorem take_again {now : Int} {M : List Spn} (h : Held M) : ∀ (l : List Spn) (K : List (Int × Int)), (∀ s ∈ l, s ∈ M ∧ lateB s.st now = false) → takeF now l M K = (M, 0)
  | [], K, _ => rfl
  | s :: t, K, hl => by
    obtain ⟨h1, h2⟩ := hl s List.mem_cons_self
    have hs : skipB now M K s = true := by
      unfold skipB hasB
      rw [look_of_mem h.once h1]
      simp [h2]
    rw [take_skip hs]
    exact take_again h t K (fun x hx => hl x (List.mem_cons_of_mem _ hx))
theorem len_putM (s : Spn) : ∀ M : List Spn, (putM s M).length ≤ M.length + 1
  | [] => Nat.le_refl _
  | m :: t => by
    rw [putM]
    split
    · simp
    · have := len_putM s t; simp; omega
theorem len_take (now : Int) : ∀ (t M : List Spn) (K : List (Int × Int)), (takeF now t M K).1.length ≤ M.length + t.length
  | [], M, K => Nat.le_refl _
  | s :: t, M, K => by
    cases h : skipB now M K s with
    | true => rw [take_skip h]; have := len_take now t M K; simp; omega
    | false => rw [take_put h]; have := len_take now t (putM s M) (K ++ [keyOf s]); have := len_putM s M; simp; omega
end Go.Proofs.Ytibakmchgppndaa
