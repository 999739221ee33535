/- Plain facts on nets: a frame between worlds in which some blocks may turn; messages; a chain of links in an array. Nothing of the program is run here. -/
import Derived.WalkKit
import Derived.WalkSpells
namespace Go.Proofs.Ytgafedmabaeemaa
open Go.RowKit

/-- Of what was there only blocks in S may have turned; the streams are as they were. -/
structure Kept (S : Nat → Prop) (w w' : World) : Prop where
  os : w'.os = w.os
  tape : w'.tape = w.tape
  output : w'.output = w.output
  size : w.heap.size ≤ w'.heap.size
  block : ∀ k, k < w.heap.size → ¬ S k → w'.heap[k]? = w.heap[k]?

theorem Kept.refl (S : Nat → Prop) (w : World) : Kept S w w := ⟨rfl, rfl, rfl, Nat.le_refl _, fun _ _ _ => rfl⟩
theorem Kept.trans {S S' T : Nat → Prop} {a b c : World} (h : Kept S a b) (k : Kept S' b c) (h1 : ∀ i, i < a.heap.size → S i → T i) (h2 : ∀ i, i < a.heap.size → S' i → T i) : Kept T a c :=
  ⟨k.os.trans h.os, k.tape.trans h.tape, k.output.trans h.output, Nat.le_trans h.size k.size, fun i hi hT =>
    (k.block i (Nat.lt_of_lt_of_le hi h.size) (fun e => hT (h2 i hi e))).trans (h.block i hi (fun e => hT (h1 i hi e)))⟩
theorem Kept.drew {S : Nat → Prop} {a w : World} (h : Kept S a w) : Kept S a w.drew := ⟨h.os, h.tape, h.output, h.size, h.block⟩
theorem Kept.alloc {S : Nat → Prop} {a w : World} (h : Kept S a w) (o : Obj) : Kept S a (w.alloc o) :=
  h.trans (S' := S) ⟨rfl, rfl, rfl, by simp, fun k hk _ => Below.heap_alloc _ _ _ hk⟩ (fun _ _ h => h) (fun _ _ h => h)
theorem Kept.setCell {S : Nat → Prop} {a w : World} (h : Kept S a w) {p : Addr} (hp : p.block < a.heap.size → S p.block) (u : Value) : Kept S a (w.setCell p u) :=
  h.trans (S' := fun k => k = p.block) ⟨rfl, rfl, rfl, by simp [World.setCell], fun k _ hk' => Below.heap_setCell _ _ _ _ hk'⟩ (fun _ _ h => h) (fun i hi e => by subst e; exact hp hi)
theorem Kept.grown {S : Nat → Prop} {a w w' : World} {row : Option Nat} (h : Kept S a w) (hg : w.grownBy w' row) (hr : ∀ k, row = some k → k < a.heap.size → S k) : Kept S a w' :=
  h.trans (S' := fun k => some k = row) ⟨hg.os, hg.tape, hg.output, hg.size, fun k hk hk' => hg.block k hk hk'⟩ (fun _ _ h => h) (fun i hi e => hr i e.symm hi)
theorem Kept.below {S : Nat → Prop} {a w : World} (h : Kept S a w) (hS : ∀ k, k < a.heap.size → ¬ S k) : Below a.heap.size a w :=
  ⟨h.os, h.tape, h.output, h.size, fun k hk => h.block k hk (hS k hk)⟩
theorem Kept.mono {S T : Nat → Prop} {a w : World} (h : Kept S a w) (hS : ∀ k, k < a.heap.size → S k → T k) : Kept T a w :=
  ⟨h.os, h.tape, h.output, h.size, fun k hk hT => h.block k hk (fun e => hT (hS k hk e))⟩

/-- A message. -/
structure Mail where
  f : Int
  t : Int
  d : ByteArray

def Mail.zero : Mail := ⟨0, 0, ⟨#[]⟩⟩
def Mail.val (m : Mail) : Value := .agg #[.int .i64 m.f, .int .i64 m.t, .string m.d]

/-- What a net's cells hold. -/
structure NS where
  made : Bool
  many : Nat
  mail : Nat → Mail
  next : Nat → Nat
  used : Nat → Bool

/-- A field of a link. -/
def NS.field (s : NS) (k : Nat) : Nat → Value
  | 0 => .int .i64 (s.mail k).f
  | 1 => .int .i64 (s.mail k).t
  | 2 => .string (s.mail k).d
  | 3 => .int .i64 (s.next k)
  | _ => .bool (s.used k)

def NS.cell (s : NS) (j : Nat) : Value :=
  if j = 0 then .bool s.made else if j = 1 then .int .i64 s.many else s.field ((j - 2) / 5) ((j - 2) % 5)

def NS.cells (s : NS) : Array Value := Array.ofFn (n := 327) fun i => s.cell i

theorem NS.cells_get (s : NS) {j : Nat} (h : j < 327) : s.cells[j]? = some (s.cell j) := by
  simp [NS.cells, h]

/-- A net's block. -/
def NetIs (w : World) (b : Nat) (s : NS) : Prop := w.heap[b]? = some (.cells s.cells 45 (0, 0))

theorem NetIs.cell {w : World} {b : Nat} {s : NS} (h : NetIs w b s) {j : Nat} (hj : j < 327) : w.cell? ⟨b, j, none⟩ = some (s.cell j) := by
  simp [World.cell?, show w.heap[b]? = _ from h, NS.cells_get s hj]
theorem NetIs.frozen {w : World} {b : Nat} {s : NS} (h : NetIs w b s) (j : Nat) : w.frozen? ⟨b, j, none⟩ = false := by
  simp [World.frozen?, show w.heap[b]? = _ from h]
theorem NetIs.lt {w : World} {b : Nat} {s : NS} (h : NetIs w b s) : b < w.heap.size := (Array.getElem?_eq_some_iff.1 h).1
theorem NetIs.made {w : World} {b : Nat} {s : NS} (h : NetIs w b s) : w.cell? ⟨b, 0, none⟩ = some (.bool s.made) := h.cell (j := 0) (by omega)
theorem NetIs.many {w : World} {b : Nat} {s : NS} (h : NetIs w b s) : w.cell? ⟨b, 1, none⟩ = some (.int .i64 s.many) := h.cell (j := 1) (by omega)
theorem NetIs.field {w : World} {b : Nat} {s : NS} (h : NetIs w b s) {k i : Nat} (hk : k < 65) (hi : i < 5) : w.cell? ⟨b, 2 + k * 5 + i, none⟩ = some (s.field k i) := by
  rw [h.cell (by omega)]
  unfold NS.cell
  rw [if_neg (by omega), if_neg (by omega), show (2 + k * 5 + i - 2) / 5 = k by omega, show (2 + k * 5 + i - 2) % 5 = i by omega]
theorem NetIs.kept {S : Nat → Prop} {w w' : World} {b : Nat} {s : NS} (h : NetIs w b s) (hk : Kept S w w') (hb : ¬ S b) : NetIs w' b s :=
  (hk.block b h.lt hb).trans h
theorem NS.cells_size (s : NS) : s.cells.size = 327 := by simp [NS.cells]
theorem NS.cells_none (s : NS) {j : Nat} (h : ¬ j < 327) : s.cells[j]? = none := Array.getElem?_eq_none (by rw [NS.cells_size]; omega)
theorem NS.cells_set {s s' : NS} (j : Nat) (v : Value) (hc : ∀ i, i < 327 → s'.cell i = if i = j then v else s.cell i) : s.cells.setIfInBounds j v = s'.cells := by
  apply Array.ext_getElem?
  intro i
  rw [Array.getElem?_setIfInBounds, NS.cells_size]
  by_cases hi : i < 327
  · rw [NS.cells_get s hi, NS.cells_get s' hi, hc i hi]
    by_cases e : j = i
    · rw [if_pos e, if_pos e.symm, if_pos (by omega)]
    · rw [if_neg e, if_neg (fun x => e x.symm)]
  · rw [NS.cells_none s hi, NS.cells_none s' hi]
    split
    · rw [if_neg (by omega)]
    · rfl
theorem NetIs.set {w : World} {b : Nat} {s s' : NS} (h : NetIs w b s) (j : Nat) (v : Value) (hc : ∀ i, i < 327 → s'.cell i = if i = j then v else s.cell i) : NetIs (w.setCell ⟨b, j, none⟩ v) b s' := by
  unfold NetIs at *
  rw [heap_setCell_same w b j s.cells 45 v h, NS.cells_set j v hc]

def upd {α : Type} (f : Nat → α) (k : Nat) (v : α) : Nat → α := fun i => if i = k then v else f i
theorem upd_same {α : Type} (f : Nat → α) (k : Nat) (v : α) : upd f k v k = v := if_pos rfl
theorem upd_other {α : Type} (f : Nat → α) (k : Nat) (v : α) {i : Nat} (h : i ≠ k) : upd f k v i = f i := if_neg h

/-- One field of a link is set. -/
theorem NetIs.setField {w : World} {b : Nat} {s s' : NS} (h : NetIs w b s) {k i : Nat} (hk : k < 65) (hi : i < 5) (v : Value) (hm : s'.made = s.made) (hn : s'.many = s.many)
    (hc : ∀ k' i', i' < 5 → s'.field k' i' = if k' = k ∧ i' = i then v else s.field k' i') : NetIs (w.setCell ⟨b, 2 + k * 5 + i, none⟩ v) b s' := by
  refine h.set _ v fun j _ => ?_
  unfold NS.cell
  by_cases h0 : j = 0
  · rw [if_pos h0, if_pos h0, if_neg (by omega), hm]
  · by_cases h1 : j = 1
    · rw [if_neg h0, if_neg h0, if_pos h1, if_pos h1, if_neg (by omega), hn]
    · rw [if_neg h0, if_neg h0, if_neg h1, if_neg h1, hc _ _ (Nat.mod_lt _ (by omega))]
      by_cases e : j = 2 + k * 5 + i
      · rw [if_pos e, if_pos (by omega)]
      · rw [if_neg e, if_neg (by omega)]
theorem NetIs.setMany {w : World} {b : Nat} {s : NS} (h : NetIs w b s) (n : Nat) : NetIs (w.setCell ⟨b, 1, none⟩ (.int .i64 n)) b { s with many := n } := by
  refine h.set _ _ fun j _ => ?_
  unfold NS.cell
  by_cases h0 : j = 0
  · rw [if_pos h0, if_pos h0, if_neg (by omega)]
  · by_cases h1 : j = 1
    · rw [if_neg h0, if_pos h1, if_pos h1]
    · rw [if_neg h0, if_neg h0, if_neg h1, if_neg h1, if_neg h1]; rfl
theorem NetIs.setNext {w : World} {b : Nat} {s : NS} (h : NetIs w b s) {k : Nat} (hk : k < 65) (n : Nat) : NetIs (w.setCell ⟨b, 2 + k * 5 + 3, none⟩ (.int .i64 n)) b { s with next := upd s.next k n } := by
  refine h.setField hk (by omega) _ rfl rfl fun k' i' hi => ?_
  by_cases e : k' = k
  · subst e
    rcases i' with _ | _ | _ | _ | _ | i' <;> first | omega | simp [NS.field, upd]
  · rw [if_neg (by omega)]
    rcases i' with _ | _ | _ | _ | _ | i' <;> first | omega | simp [NS.field, upd, e]
/-- A whole link is set. -/
theorem NetIs.setLink {w : World} {b : Nat} {s : NS} (h : NetIs w b s) {k : Nat} (hk : k < 65) (m : Mail) (n : Nat) (u : Bool) :
    NetIs (((((w.setCell ⟨b, 2 + k * 5 + 0, none⟩ (.int .i64 m.f)).setCell ⟨b, 2 + k * 5 + 1, none⟩ (.int .i64 m.t)).setCell ⟨b, 2 + k * 5 + 2, none⟩ (.string m.d)).setCell ⟨b, 2 + k * 5 + 3, none⟩ (.int .i64 n)).setCell ⟨b, 2 + k * 5 + 4, none⟩ (.bool u)) b
      { s with mail := upd s.mail k m, next := upd s.next k n, used := upd s.used k u } := by
  have h1 := h.setField (s' := { s with mail := upd s.mail k { s.mail k with f := m.f } }) hk (i := 0) (by omega) (.int .i64 m.f) rfl rfl (fun k' i' hi => by
    by_cases e : k' = k
    · subst e; rcases i' with _ | _ | _ | _ | _ | i' <;> first | omega | simp [NS.field, upd]
    · rw [if_neg (by omega)]; rcases i' with _ | _ | _ | _ | _ | i' <;> first | omega | simp [NS.field, upd, e])
  have h2 := h1.setField (s' := { s with mail := upd s.mail k { s.mail k with f := m.f, t := m.t } }) hk (i := 1) (by omega) (.int .i64 m.t) rfl rfl (fun k' i' hi => by
    by_cases e : k' = k
    · subst e; rcases i' with _ | _ | _ | _ | _ | i' <;> first | omega | simp [NS.field, upd]
    · rw [if_neg (by omega)]; rcases i' with _ | _ | _ | _ | _ | i' <;> first | omega | simp [NS.field, upd, e])
  have h3 := h2.setField (s' := { s with mail := upd s.mail k m }) hk (i := 2) (by omega) (.string m.d) rfl rfl (fun k' i' hi => by
    by_cases e : k' = k
    · subst e; rcases i' with _ | _ | _ | _ | _ | i' <;> first | omega | simp [NS.field, upd]
    · rw [if_neg (by omega)]; rcases i' with _ | _ | _ | _ | _ | i' <;> first | omega | simp [NS.field, upd, e])
  have h4 := h3.setNext hk n
  exact h4.setField (s' := { s with mail := upd s.mail k m, next := upd s.next k n, used := upd s.used k u }) hk (i := 4) (by omega) (.bool u) rfl rfl (fun k' i' hi => by
    by_cases e : k' = k
    · subst e; rcases i' with _ | _ | _ | _ | _ | i' <;> first | omega | simp [NS.field, upd]
    · rw [if_neg (by omega)]; rcases i' with _ | _ | _ | _ | _ | i' <;> first | omega | simp [NS.field, upd, e])

/-! ### A chain of links: p j is the j-th link's place, the 0-th is the head's. -/
structure Chain (s : NS) (p : Nat → Nat) (L : List Mail) : Prop where
  made : s.made = true
  many : s.many = L.length
  le : L.length ≤ 64
  zero : p 0 = 0
  past : ∀ j, L.length < j → p j = 0
  lo : ∀ j, 1 ≤ j → j ≤ L.length → 1 ≤ p j
  hi : ∀ j, p j ≤ 64
  inj : ∀ i j, i ≤ L.length → j ≤ L.length → p i = p j → i = j
  next : ∀ j, j ≤ L.length → s.next (p j) = p (j + 1)
  used : ∀ k, 1 ≤ k → k ≤ 64 → (s.used k = true ↔ ∃ j, 1 ≤ j ∧ j ≤ L.length ∧ p j = k)
  mail : ∀ j, j < L.length → L[j]? = some (s.mail (p (j + 1)))

theorem many_of_all (n : Nat) : ∀ (ls : List Nat), (∀ k, 1 ≤ k → k ≤ n → k ∈ ls) → n ≤ ls.length := by
  induction n with
  | zero => intros; omega
  | succ n ih =>
    intro ls h
    have hm := h (n + 1) (by omega) (by omega)
    have := ih (ls.erase (n + 1)) (fun k h1 h2 => (List.mem_erase_of_ne (by omega)).2 (h k h1 (by omega)))
    have h2 := List.length_erase_of_mem hm
    have h3 : 0 < ls.length := List.length_pos_of_mem hm
    omega

/-- If there is room some link is not used. -/
theorem Chain.room {s : NS} {p : Nat → Nat} {L : List Mail} (h : Chain s p L) (hl : L.length < 64) (hu : ∀ k, 1 ≤ k → k ≤ 64 → s.used k = true) : False := by
  have := many_of_all 64 ((List.range L.length).map fun j => p (j + 1)) (fun k h1 h2 => by
    obtain ⟨j, j1, j2, e⟩ := (h.used k h1 h2).1 (hu k h1 h2)
    exact List.mem_map.2 ⟨j - 1, List.mem_range.2 (by omega), by rw [show j - 1 + 1 = j by omega]; exact e⟩)
  simp at this
  omega

/-- What a message behind place i makes of a chain. -/
def NS.ins (s : NS) (at' k : Nat) (m : Mail) : NS :=
  { made := s.made, many := s.many + 1, mail := upd s.mail k m, next := upd (upd s.next k (s.next at')) at' k, used := upd s.used k true }
def insP (p : Nat → Nat) (i k : Nat) : Nat → Nat := fun j => if j ≤ i then p j else if j = i + 1 then k else p (j - 1)
def insL {α : Type} (L : List α) (i : Nat) (m : α) : List α := L.take i ++ m :: L.drop i
theorem insL_length {α : Type} (L : List α) (i : Nat) (m : α) (h : i ≤ L.length) : (insL L i m).length = L.length + 1 := by
  simp [insL]; omega
theorem insL_get {α : Type} (L : List α) (i : Nat) (m : α) (h : i ≤ L.length) (j : Nat) : (insL L i m)[j]? = if j < i then L[j]? else if j = i then some m else L[j - 1]? := by
  unfold insL
  by_cases h1 : j < i
  · rw [if_pos h1, List.getElem?_append_left (by simp; omega), List.getElem?_take_of_lt h1]
  · rw [if_neg h1, List.getElem?_append_right (by simp; omega)]
    have e : (L.take i).length = i := by simp; omega
    rw [e]
    by_cases h2 : j = i
    · subst h2; simp
    · rw [if_neg h2, show j - i = (j - i - 1) + 1 by omega, List.getElem?_cons_succ, List.getElem?_drop]
      congr 1; omega

theorem Chain.ins {s : NS} {p : Nat → Nat} {L : List Mail} (h : Chain s p L) (hl : L.length < 64) {i k : Nat} (hi : i ≤ L.length) (k1 : 1 ≤ k) (k2 : k ≤ 64) (hk : s.used k = false) (m : Mail) :
    Chain (s.ins (p i) k m) (insP p i k) (insL L i m) := by
  have hlen := insL_length L i m hi
  have hnk : ∀ j, j ≤ L.length → p j ≠ k := fun j hj e => by
    by_cases j0 : j = 0
    · subst j0; rw [h.zero] at e; omega
    · have := (h.used k k1 k2).2 ⟨j, by omega, hj, e⟩
      rw [hk] at this; cases this
  refine ⟨h.made, by rw [hlen]; show s.many + 1 = _; rw [h.many], by omega, ?_, ?_, ?_, ?_, ?_, ?_, ?_, ?_⟩
  · simp [insP, h.zero]
  · intro j hj; rw [hlen] at hj
    unfold insP; rw [if_neg (by omega), if_neg (by omega)]; exact h.past _ (by omega)
  · intro j j1 j2; rw [hlen] at j2
    unfold insP; split
    · exact h.lo j j1 (by omega)
    · split
      · exact k1
      · exact h.lo _ (by omega) (by omega)
  · intro j; unfold insP; split
    · exact h.hi _
    · split
      · exact k2
      · exact h.hi _
  · intro a b ha hb hab; rw [hlen] at ha hb
    unfold insP at hab
    by_cases a1 : a ≤ i <;> by_cases b1 : b ≤ i
    · rw [if_pos a1, if_pos b1] at hab; exact h.inj a b (by omega) (by omega) hab
    · rw [if_pos a1, if_neg b1] at hab
      split at hab
      · exact absurd hab (hnk a (by omega))
      · have := h.inj a (b - 1) (by omega) (by omega) hab; omega
    · rw [if_neg a1, if_pos b1] at hab
      split at hab
      · exact absurd hab.symm (hnk b (by omega))
      · have := h.inj (a - 1) b (by omega) (by omega) hab; omega
    · rw [if_neg a1, if_neg b1] at hab
      split at hab <;> split at hab
      · omega
      · exact absurd hab.symm (hnk _ (by omega))
      · exact absurd hab (hnk _ (by omega))
      · have := h.inj (a - 1) (b - 1) (by omega) (by omega) hab; omega
  · intro j hj; rw [hlen] at hj
    show upd (upd s.next k (s.next (p i))) (p i) k (insP p i k j) = _
    by_cases j1 : j < i
    · have e1 : insP p i k j = p j := by unfold insP; rw [if_pos (by omega)]
      have e2 : insP p i k (j + 1) = p (j + 1) := by unfold insP; rw [if_pos (by omega)]
      rw [e1, e2, upd_other _ _ _ (fun e => by have := h.inj j i (by omega) hi e; omega), upd_other _ _ _ (hnk j (by omega)), h.next j (by omega)]
    · by_cases j2 : j = i
      · subst j2
        have e1 : insP p j k j = p j := by unfold insP; rw [if_pos (by omega)]
        have e2 : insP p j k (j + 1) = k := by unfold insP; rw [if_neg (by omega), if_pos rfl]
        rw [e1, e2, upd_same]
      · by_cases j3 : j = i + 1
        · subst j3
          have e1 : insP p i k (i + 1) = k := by unfold insP; rw [if_neg (by omega), if_pos rfl]
          have e2 : insP p i k (i + 1 + 1) = p (i + 1) := by unfold insP; rw [if_neg (by omega), if_neg (by omega)]; rfl
          rw [e1, e2, upd_other _ _ _ (hnk i hi).symm, upd_same, h.next i hi]
        · have e1 : insP p i k j = p (j - 1) := by unfold insP; rw [if_neg (by omega), if_neg (by omega)]
          have e2 : insP p i k (j + 1) = p j := by unfold insP; rw [if_neg (by omega), if_neg (by omega)]; rfl
          rw [e1, e2, upd_other _ _ _ (fun e => by have := h.inj (j - 1) i (by omega) hi e; omega), upd_other _ _ _ (hnk _ (by omega)), h.next _ (by omega), show j - 1 + 1 = j by omega]
  · intro q q1 q2
    show upd s.used k true q = true ↔ _
    by_cases e : q = k
    · subst e; rw [upd_same]
      refine ⟨fun _ => ⟨i + 1, by omega, by omega, by unfold insP; rw [if_neg (by omega), if_pos rfl]⟩, fun _ => rfl⟩
    · rw [upd_other _ _ _ e, h.used q q1 q2]
      constructor
      · rintro ⟨j, j1, j2, hj⟩
        by_cases c : j ≤ i
        · exact ⟨j, j1, by omega, by unfold insP; rw [if_pos c]; exact hj⟩
        · exact ⟨j + 1, by omega, by omega, by unfold insP; rw [if_neg (by omega), if_neg (by omega)]; exact hj⟩
      · rintro ⟨j, j1, j2, hj⟩
        unfold insP at hj
        split at hj
        · exact ⟨j, j1, by omega, hj⟩
        · split at hj
          · exact absurd hj.symm e
          · exact ⟨j - 1, by omega, by omega, hj⟩
  · intro j hj; rw [hlen] at hj
    show _ = some (upd s.mail k m (insP p i k (j + 1)))
    rw [insL_get _ _ _ hi]
    by_cases j1 : j < i
    · have e1 : insP p i k (j + 1) = p (j + 1) := by unfold insP; rw [if_pos (by omega)]
      rw [if_pos j1, e1, upd_other _ _ _ (hnk _ (by omega)), h.mail j (by omega)]
    · by_cases j2 : j = i
      · subst j2
        have e1 : insP p j k (j + 1) = k := by unfold insP; rw [if_neg (by omega), if_pos rfl]
        rw [if_neg j1, if_pos rfl, e1, upd_same]
      · have e1 : insP p i k (j + 1) = p j := by unfold insP; rw [if_neg (by omega), if_neg (by omega)]; rfl
        rw [if_neg j1, if_neg j2, e1, upd_other _ _ _ (hnk _ (by omega)), h.mail (j - 1) (by omega), show j - 1 + 1 = j by omega]

/-- What is left behind a removal. -/
def NS.del (s : NS) (at' k : Nat) : NS :=
  { made := s.made, many := s.many - 1, mail := upd s.mail k Mail.zero, next := upd (upd s.next at' (s.next k)) k 0, used := upd s.used k false }
def delP (p : Nat → Nat) (i : Nat) : Nat → Nat := fun j => if j ≤ i then p j else p (j + 1)

theorem Chain.del {s : NS} {p : Nat → Nat} {L : List Mail} (h : Chain s p L) {i : Nat} (hi : i < L.length) : Chain (s.del (p i) (p (i + 1))) (delP p i) (L.eraseIdx i) := by
  have hlen : (L.eraseIdx i).length = L.length - 1 := List.length_eraseIdx_of_lt hi
  have hle := h.le
  have hP : ∀ j, delP p i j = if j ≤ i then p j else p (j + 1) := fun _ => rfl
  refine ⟨h.made, by rw [hlen]; show s.many - 1 = _; rw [h.many], by omega, ?_, ?_, ?_, ?_, ?_, ?_, ?_, ?_⟩
  · simp [delP, h.zero]
  · intro j hj; rw [hlen] at hj
    rw [hP, if_neg (by omega)]; exact h.past _ (by omega)
  · intro j j1 j2; rw [hlen] at j2
    rw [hP]; split
    · exact h.lo j j1 (by omega)
    · exact h.lo _ (by omega) (by omega)
  · intro j; rw [hP]; split <;> exact h.hi _
  · intro a b ha hb hab; rw [hlen] at ha hb
    rw [hP, hP] at hab
    split at hab <;> split at hab
    · exact h.inj a b (by omega) (by omega) hab
    · have := h.inj a (b + 1) (by omega) (by omega) hab; omega
    · have := h.inj (a + 1) b (by omega) (by omega) hab; omega
    · have := h.inj (a + 1) (b + 1) (by omega) (by omega) hab; omega
  · intro j hj; rw [hlen] at hj
    show upd (upd s.next (p i) (s.next (p (i + 1)))) (p (i + 1)) 0 (delP p i j) = _
    rw [hP, hP]
    by_cases j1 : j < i
    · rw [if_pos (by omega), if_pos (by omega), upd_other _ _ _ (fun e => by have := h.inj j (i + 1) (by omega) (by omega) e; omega), upd_other _ _ _ (fun e => by have := h.inj j i (by omega) (by omega) e; omega), h.next j (by omega)]
    · by_cases j2 : j = i
      · subst j2
        rw [if_pos (by omega), if_neg (by omega), upd_other _ _ _ (fun e => by have := h.inj j (j + 1) (by omega) (by omega) e; omega), upd_same, h.next _ (by omega)]
      · rw [if_neg (by omega), if_neg (by omega), upd_other _ _ _ (fun e => by have := h.inj (j + 1) (i + 1) (by omega) (by omega) e; omega), upd_other _ _ _ (fun e => by have := h.inj (j + 1) i (by omega) (by omega) e; omega), h.next _ (by omega)]
  · intro q q1 q2
    show upd s.used (p (i + 1)) false q = true ↔ _
    by_cases e : q = p (i + 1)
    · subst e; rw [upd_same]
      refine ⟨(fun x => by cases x), ?_⟩
      rintro ⟨j, j1, j2, hj⟩
      rw [hP] at hj
      split at hj
      · have := h.inj j (i + 1) (by omega) (by omega) hj; omega
      · have := h.inj (j + 1) (i + 1) (by omega) (by omega) hj; omega
    · rw [upd_other _ _ _ e, h.used q q1 q2]
      constructor
      · rintro ⟨j, j1, j2, hj⟩
        by_cases c : j ≤ i
        · exact ⟨j, j1, by omega, by rw [hP, if_pos c]; exact hj⟩
        · by_cases c2 : j = i + 1
          · subst c2; exact absurd hj.symm e
          · exact ⟨j - 1, by omega, by omega, by rw [hP, if_neg (by omega), show j - 1 + 1 = j by omega]; exact hj⟩
      · rintro ⟨j, j1, j2, hj⟩
        rw [hP] at hj
        split at hj
        · exact ⟨j, j1, by omega, hj⟩
        · exact ⟨j + 1, by omega, by omega, hj⟩
  · intro j hj; rw [hlen] at hj
    show _ = some (upd s.mail (p (i + 1)) Mail.zero (delP p i (j + 1)))
    rw [hP, List.getElem?_eraseIdx]
    by_cases j1 : j < i
    · rw [if_pos j1, if_pos (show j + 1 ≤ i by omega), upd_other _ _ _ (fun e => by have := h.inj (j + 1) (i + 1) (by omega) (by omega) e; omega), h.mail j (by omega)]
    · rw [if_neg j1, if_neg (show ¬ j + 1 ≤ i by omega), upd_other _ _ _ (fun e => by have := h.inj (j + 1 + 1) (i + 1) (by omega) (by omega) e; omega), h.mail (j + 1) (by omega)]

end Go.Proofs.Ytgafedmabaeemaa
