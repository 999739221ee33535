/- The methods of merges.rows, each walked once: Less, Len, Swap, Pop, Push. -/
import Derived.Test.YtfhpjopdndnmgaaSort
import Derived.Lib.SliceRun
namespace Go.Proofs.Ytfhpjopdndnmgaa
open Go.RowKit

/-- A row as it stands in the heap: where its cells lie, which ones are left, its place among all. -/
structure Rw where
  blk : Nat
  off : Nat
  cap : Nat
  xs : List Cel
  place : Nat
instance : Inhabited Rw := ⟨⟨0, 0, 0, [], 0⟩⟩

/-- Which row stands ahead. -/
def ltR (a b : Rw) : Bool := decide (or2 (cmpC (nth a.xs 0) (nth b.xs 0)) (cmpI a.place b.place) < 0)
theorem ltR_eq {a b : Rw} {x y : Cel} (hx : nth a.xs 0 = x) (hy : nth b.xs 0 = y) : ltR a b = decide (or2 (cmpC x y) (cmpI a.place b.place) < 0) := by unfold ltR; rw [hx, hy]

def cellsH : List Rw → List Value
  | [] => []
  | r :: l => .slice (some ⟨r.blk, r.off, none⟩) r.xs.length r.cap :: .int .i64 r.place :: cellsH l
theorem cellsH_length : ∀ l, (cellsH l).length = l.length * 2
  | [] => rfl
  | r :: l => by simp [cellsH, cellsH_length l]; omega
theorem cellsH_append : ∀ a b, cellsH (a ++ b) = cellsH a ++ cellsH b
  | [], b => rfl
  | r :: l, b => by simp [cellsH, cellsH_append l b]
theorem cellsH_get : ∀ (l : List Rw) (i : Nat) (r : Rw), l[i]? = some r → (cellsH l)[i * 2]? = some (.slice (some ⟨r.blk, r.off, none⟩) r.xs.length r.cap) ∧ (cellsH l)[i * 2 + 1]? = some (.int .i64 r.place)
  | [], i, r, h => by simp at h
  | x :: l, 0, r, h => by simp at h; subst h; exact ⟨rfl, rfl⟩
  | x :: l, i + 1, r, h => by
    have := cellsH_get l i r (by simpa using h)
    rw [show (i + 1) * 2 = i * 2 + 2 by omega]
    exact this
theorem cellsH_set : ∀ (l : List Rw) (i : Nat) (r : Rw), cellsH (l.set i r) = ((cellsH l).set (i * 2) (.slice (some ⟨r.blk, r.off, none⟩) r.xs.length r.cap)).set (i * 2 + 1) (.int .i64 r.place)
  | [], i, r => by simp [cellsH]
  | x :: l, 0, r => by simp [cellsH]
  | x :: l, i + 1, r => by
    rw [show (i + 1) * 2 = i * 2 + 1 + 1 by omega]
    simp [cellsH, cellsH_set l i r]
theorem cellsH_one : ∀ (l : List Rw), ∀ u ∈ cellsH l, u.oneCell' = true
  | [], u, h => by cases h
  | r :: l, u, h => by
    simp only [cellsH, List.mem_cons] at h
    rcases h with rfl | rfl | h
    · rfl
    · rfl
    · exact cellsH_one l u h

/-- The row's cells lie where it says. -/
structure GoodR (w : World) (r : Rw) : Prop where
  ne : 0 < r.xs.length
  len : r.xs.length ≤ 1000
  fit : r.xs.length ≤ r.cap
  pl : r.place ≤ 1000
  at_ : ∀ j u, (cellsC r.xs)[j]? = some u → w.cell? ⟨r.blk, r.off + j, none⟩ = some u
theorem GoodR.kept {S : Nat → Prop} {w w' : World} {r : Rw} (h : GoodR w r) (hK : Kept S w w') (hS : ¬ S r.blk) : GoodR w' r :=
  ⟨h.ne, h.len, h.fit, h.pl, fun j u hu => hK.cell (h.at_ j u hu) hS⟩
theorem GoodR.hd {w : World} {r : Rw} (h : GoodR w r) : w.cell? ⟨r.blk, r.off, none⟩ = some (.string (nth r.xs 0).k) ∧ w.cell? ⟨r.blk, r.off + 1, none⟩ = some (.int .i64 (nth r.xs 0).s) ∧ w.cell? ⟨r.blk, r.off + 2, none⟩ = some (.string (nth r.xs 0).v) := by
  obtain ⟨h0, h1, h2⟩ := cellsC_get r.xs 0 _ (nth_get r.xs h.ne)
  simp only [Nat.zero_mul, Nat.zero_add] at h0 h1 h2
  exact ⟨h.at_ 0 _ h0, h.at_ 1 _ h1, h.at_ 2 _ h2⟩

/-- The heap: a variable p that holds a slice v of rows of its own. -/
structure HeapAt (w : World) (base p : Nat) (v : Value) (l : List Rw) : Prop where
  cell : w.cell? ⟨p, 0, none⟩ = some v
  fz : w.frozen? ⟨p, 0, none⟩ = false
  own : w.ownsRow base 58 2 v l.length (cellsH l)
  good : ∀ r ∈ l, GoodR w r
  np : v.ownBlock ≠ some p
  nr : ∀ r ∈ l, r.blk ≠ p ∧ v.ownBlock ≠ some r.blk
  few : l.length ≤ 100
theorem Kept.grown0 {w w' : World} (h : Kept (fun _ => False) w w') : w.grownBy w' none := ⟨h.os, h.tape, h.output, h.size, fun k hk _ => h.block k hk (fun f => f)⟩
theorem HeapAt.kept {w w' : World} {base p : Nat} {v : Value} {l : List Rw} (h : HeapAt w base p v l) (hK : Kept (fun _ => False) w w') : HeapAt w' base p v l :=
  ⟨hK.cell h.cell (fun f => f), hK.frozen h.fz (World.block_lt_of_cell? _ _ h.cell) (fun f => f), h.own.kept hK.grown0 (by
    cases v with
    | slice a n c => cases a <;> simp [Value.ownBlock]
    | _ => simp [Value.ownBlock]), fun r hr => (h.good r hr).kept hK (fun f => f), h.np, h.nr, h.few⟩
theorem HeapAt.form {w : World} {base p : Nat} {v : Value} {l : List Rw} (h : HeapAt w base p v l) (hl : 0 < l.length) : ∃ g cap, v = .slice (some ⟨g, 0, none⟩) l.length cap ∧ l.length ≤ cap ∧ base ≤ g ∧ g < w.heap.size := by
  rcases row_form h.own with ⟨_, h0⟩ | ⟨g, cap, rfl, h1, h2, h3, _⟩
  · omega
  · exact ⟨g, cap, rfl, h1, h2, h3⟩
theorem nth_mem {α : Type} [Inhabited α] {l : List α} {i : Nat} (h : i < l.length) : nth l i ∈ l := List.mem_of_getElem? (nth_get l h)
theorem HeapAt.rowAt {w : World} {base p g n cap : Nat} {l : List Rw} (h : HeapAt w base p (.slice (some ⟨g, 0, none⟩) n cap) l) {i : Nat} (hi : i < l.length) :
    w.cell? ⟨g, i * 2, none⟩ = some (.slice (some ⟨(nth l i).blk, (nth l i).off, none⟩) (nth l i).xs.length (nth l i).cap) ∧ w.cell? ⟨g, i * 2 + 1, none⟩ = some (.int .i64 (nth l i).place) := by
  obtain ⟨h0, h1⟩ := cellsH_get l i _ (nth_get l hi)
  have hc := h.own.cells (g := g) rfl
  have e0 := hc _ _ h0
  have e1 := hc _ _ h1
  rw [add_mid, Nat.zero_add] at e0 e1
  exact ⟨e0, e1⟩

set_option maxRecDepth 100000 in
set_option maxHeartbeats 2000000 in
theorem less_any (w : World) (g n cap i k : Nat) (ri rk : Rw) (ci ck : Cel) (hi : nth ri.xs 0 = ci) (hk : nth rk.xs 0 = ck) (li : 0 < ri.xs.length) (lk : 0 < rk.xs.length) (hin : i < n) (hkn : k < n)
    (a0 : w.cell? ⟨g, i * 2, none⟩ = some (.slice (some ⟨ri.blk, ri.off, none⟩) ri.xs.length ri.cap)) (a1 : w.cell? ⟨g, i * 2 + 1, none⟩ = some (.int .i64 ri.place))
    (b0 : w.cell? ⟨g, k * 2, none⟩ = some (.slice (some ⟨rk.blk, rk.off, none⟩) rk.xs.length rk.cap)) (b1 : w.cell? ⟨g, k * 2 + 1, none⟩ = some (.int .i64 rk.place))
    (c0 : w.cell? ⟨ri.blk, ri.off, none⟩ = some (.string ci.k)) (c1 : w.cell? ⟨ri.blk, ri.off + 1, none⟩ = some (.int .i64 ci.s)) (c2 : w.cell? ⟨ri.blk, ri.off + 2, none⟩ = some (.string ci.v))
    (d0 : w.cell? ⟨rk.blk, rk.off, none⟩ = some (.string ck.k)) (d1 : w.cell? ⟨rk.blk, rk.off + 1, none⟩ = some (.int .i64 ck.s)) (d2 : w.cell? ⟨rk.blk, rk.off + 2, none⟩ = some (.string ck.v)) :
    Calls Try.prog 66 #[.slice (some ⟨g, 0, none⟩) n cap, .int .i64 i, .int .i64 k] w fun e w' => e = .returned (.bool (ltR ri rk)) ∧ Kept (fun _ => False) w w' := by
  have i1 : (0 : Int) ≤ (i : Int) := by omega
  have i2 : (i : Int) < (n : Int) := by omega
  have i3 : (0 : Int) ≤ (k : Int) := by omega
  have i4 : (k : Int) < (n : Int) := by omega
  have i5 : (0 : Int) < (ri.xs.length : Int) := by omega
  have i6 : (0 : Int) < (rk.xs.length : Int) := by omega
  have hKw : ∀ {w4 w' : World}, Kept (fun _ => False) w.drew w4 ∧ Kept (fun _ => False) w4 w' → Kept (fun _ => False) w w' := fun h => (((Kept.refl _ w).drew).trans h.1 (fun _ _ f => f) (fun _ _ f => f)).trans h.2 (fun _ _ f => f) (fun _ _ f => f)
  go_enter Try.func66, Try.ntmps66
  go_upto_region 1 with fail
  refine wp_region_held_drew (S := (fun w' => w'.cell? ⟨g, i * 2, none⟩ = some (.slice (some ⟨ri.blk, ri.off, none⟩) ri.xs.length ri.cap) ∧ w'.cell? ⟨g, i * 2 + 1, none⟩ = some (.int .i64 ri.place) ∧ w'.cell? ⟨g, k * 2, none⟩ = some (.slice (some ⟨rk.blk, rk.off, none⟩) rk.xs.length rk.cap) ∧ w'.cell? ⟨g, k * 2 + 1, none⟩ = some (.int .i64 rk.place) ∧ w'.cell? ⟨ri.blk, ri.off, none⟩ = some (.string ci.k) ∧ w'.cell? ⟨ri.blk, ri.off + 1, none⟩ = some (.int .i64 ci.s) ∧ w'.cell? ⟨ri.blk, ri.off + 2, none⟩ = some (.string ci.v) ∧ w'.cell? ⟨rk.blk, rk.off, none⟩ = some (.string ck.k) ∧ w'.cell? ⟨rk.blk, rk.off + 1, none⟩ = some (.int .i64 ck.s) ∧ w'.cell? ⟨rk.blk, rk.off + 2, none⟩ = some (.string ck.v))) (by kernel_rfl) ?_ (fun hHeld => ?_)
  · first | go_keep | (go_split_ands; (simp [go_sem, *]; done))
  refine wpAnyH_take (i := 0) (v := ?_) opAt0 (by kernel_rfl) (by kernel_rfl) (by kernel_rfl) (fun _ _ _ h => h) (Or.inl ⟨by rfl, ?_⟩) hHeld ?_
  case refine_2 => (intro w hSw; (try dsimp only at hSw); go_simp; all_goals (with_reducible rfl))
  (try simp only [Act.put]); (try simp only [List.setIfInBounds_toArray]); (try simp only [List.set_cons_succ]); (try simp only [List.set_cons_zero])
  refine wpAnyH_take (i := 1) (v := ?_) opAt1 (by kernel_rfl) (by kernel_rfl) (by kernel_rfl) (fun _ _ _ h => h) (Or.inl ⟨by rfl, ?_⟩) hHeld ?_
  case refine_2 => (intro w hSw; (try dsimp only at hSw); go_simp; all_goals (with_reducible rfl))
  (try simp only [Act.put]); (try simp only [List.setIfInBounds_toArray]); (try simp only [List.set_cons_succ]); (try simp only [List.set_cons_zero])
  refine wpAnyH_take (i := 2) (v := ?_) opAt2 (by kernel_rfl) (by kernel_rfl) (by kernel_rfl) (fun _ _ _ h => h) (Or.inl ⟨by rfl, ?_⟩) hHeld ?_
  case refine_2 => (intro w hSw; (try dsimp only at hSw); go_simp; all_goals (with_reducible rfl))
  (try simp only [Act.put]); (try simp only [List.setIfInBounds_toArray]); (try simp only [List.set_cons_succ]); (try simp only [List.set_cons_zero])
  refine wpAnyH_take (i := 3) (v := ?_) opAt3 (by kernel_rfl) (by kernel_rfl) (by kernel_rfl) (fun _ _ _ h => h) (Or.inl ⟨by rfl, ?_⟩) hHeld ?_
  case refine_2 => (intro w hSw; (try dsimp only at hSw); go_simp; all_goals (with_reducible rfl))
  (try simp only [Act.put]); (try simp only [List.setIfInBounds_toArray]); (try simp only [List.set_cons_succ]); (try simp only [List.set_cons_zero])
  refine wpAnyH_take (i := 4) (v := ?_) opAt4 (by kernel_rfl) (by kernel_rfl) (by kernel_rfl) (fun _ _ _ h => h) (Or.inl ⟨by rfl, ?_⟩) hHeld ?_
  case refine_2 => (intro w hSw; (try dsimp only at hSw); go_simp; all_goals (with_reducible rfl))
  (try simp only [Act.put]); (try simp only [List.setIfInBounds_toArray]); (try simp only [List.set_cons_succ]); (try simp only [List.set_cons_zero])
  refine wpAnyH_take (i := 5) (v := ?_) opAt5 (by kernel_rfl) (by kernel_rfl) (by kernel_rfl) (fun _ _ _ h => h) (Or.inl ⟨by rfl, ?_⟩) hHeld ?_
  case refine_2 => (intro w hSw; (try dsimp only at hSw); go_simp; all_goals (with_reducible rfl))
  (try simp only [Act.put]); (try simp only [List.setIfInBounds_toArray]); (try simp only [List.set_cons_succ]); (try simp only [List.set_cons_zero])
  refine wpAnyH_take (i := 6) (v := ?_) opAt6 (by kernel_rfl) (by kernel_rfl) (by kernel_rfl) (fun _ _ _ h => h) (Or.inl ⟨by rfl, ?_⟩) hHeld ?_
  case refine_2 => (intro w hSw; (try dsimp only at hSw); go_simp; all_goals (with_reducible rfl))
  (try simp only [Act.put]); (try simp only [List.setIfInBounds_toArray]); (try simp only [List.set_cons_succ]); (try simp only [List.set_cons_zero])
  refine wpAnyH_take (i := 7) (v := ?_) opAt7 (by kernel_rfl) (by kernel_rfl) (by kernel_rfl) (fun _ _ _ h => h) (Or.inl ⟨by rfl, ?_⟩) hHeld ?_
  case refine_2 => (intro w hSw; (try dsimp only at hSw); go_simp; all_goals (with_reducible rfl))
  (try simp only [Act.put]); (try simp only [List.setIfInBounds_toArray]); (try simp only [List.set_cons_succ]); (try simp only [List.set_cons_zero])
  refine wpAnyH_take (i := 8) (v := ?_) opAt8 (by kernel_rfl) (by kernel_rfl) (by kernel_rfl) (fun _ _ _ h => h) (Or.inl ⟨by rfl, ?_⟩) hHeld ?_
  case refine_2 => (intro w hSw; (try dsimp only at hSw); go_simp; all_goals (with_reducible rfl))
  (try simp only [Act.put]); (try simp only [List.setIfInBounds_toArray]); (try simp only [List.set_cons_succ]); (try simp only [List.set_cons_zero])
  refine wpAnyH_take (i := 9) (v := ?_) opAt9 (by kernel_rfl) (by kernel_rfl) (by kernel_rfl) (fun _ _ _ h => h) (Or.inl ⟨by rfl, ?_⟩) hHeld ?_
  case refine_2 => (intro w hSw; (try dsimp only at hSw); go_simp; all_goals (with_reducible rfl))
  (try simp only [Act.put]); (try simp only [List.setIfInBounds_toArray]); (try simp only [List.set_cons_succ]); (try simp only [List.set_cons_zero])
  refine wpAnyH_take (i := 10) (v := ?_) opAt10 (by kernel_rfl) (by kernel_rfl) (by kernel_rfl) (fun _ _ _ h => h) (Or.inl ⟨by rfl, ?_⟩) hHeld ?_
  case refine_2 => (intro w hSw; (try dsimp only at hSw); go_simp; all_goals (with_reducible rfl))
  (try simp only [Act.put]); (try simp only [List.setIfInBounds_toArray]); (try simp only [List.set_cons_succ]); (try simp only [List.set_cons_zero])
  refine wpAnyH_take (i := 11) (v := ?_) opAt11 (by kernel_rfl) (by kernel_rfl) (by kernel_rfl) (fun _ _ _ h => h) (Or.inl ⟨by rfl, ?_⟩) hHeld ?_
  case refine_2 => (intro w hSw; (try dsimp only at hSw); go_simp; all_goals (with_reducible rfl))
  (try simp only [Act.put]); (try simp only [List.setIfInBounds_toArray]); (try simp only [List.set_cons_succ]); (try simp only [List.set_cons_zero])
  refine wpAnyH_take (i := 12) (v := ?_) opAt12 (by kernel_rfl) (by kernel_rfl) (by kernel_rfl) (fun _ _ _ h => h) (Or.inl ⟨by rfl, ?_⟩) hHeld ?_
  case refine_2 => (intro w hSw; (try dsimp only at hSw); go_simp; all_goals (with_reducible rfl))
  (try simp only [Act.put]); (try simp only [List.setIfInBounds_toArray]); (try simp only [List.set_cons_succ]); (try simp only [List.set_cons_zero])
  refine wpAnyH_take (i := 13) (v := ?_) opAt13 (by kernel_rfl) (by kernel_rfl) (by kernel_rfl) (fun _ _ _ h => h) (Or.inl ⟨by rfl, ?_⟩) hHeld ?_
  case refine_2 => (intro w hSw; (try dsimp only at hSw); go_simp; all_goals (with_reducible rfl))
  (try simp only [Act.put]); (try simp only [List.setIfInBounds_toArray]); (try simp only [List.set_cons_succ]); (try simp only [List.set_cons_zero])
  refine wpAnyH_take (i := 15) (v := ?_) opAt15 (by kernel_rfl) (by kernel_rfl) (by kernel_rfl) (fun _ _ _ h => h) (Or.inl ⟨by rfl, ?_⟩) hHeld ?_
  case refine_2 => (intro w hSw; (try dsimp only at hSw); go_simp; all_goals (with_reducible rfl))
  (try simp only [Act.put]); (try simp only [List.setIfInBounds_toArray]); (try simp only [List.set_cons_succ]); (try simp only [List.set_cons_zero])
  refine wpAnyH_take (i := 16) (v := ?_) opAt16 (by kernel_rfl) (by kernel_rfl) (by kernel_rfl) (fun _ _ _ h => h) (Or.inl ⟨by rfl, ?_⟩) hHeld ?_
  case refine_2 => (intro w hSw; (try dsimp only at hSw); go_simp; all_goals (with_reducible rfl))
  (try simp only [Act.put]); (try simp only [List.setIfInBounds_toArray]); (try simp only [List.set_cons_succ]); (try simp only [List.set_cons_zero])
  refine wpAnyH_take (i := 17) (v := ?_) opAt17 (by kernel_rfl) (by kernel_rfl) (by kernel_rfl) (fun _ _ _ h => h) (Or.inl ⟨by rfl, ?_⟩) hHeld ?_
  case refine_2 => (intro w hSw; (try dsimp only at hSw); go_simp; all_goals (with_reducible rfl))
  (try simp only [Act.put]); (try simp only [List.setIfInBounds_toArray]); (try simp only [List.set_cons_succ]); (try simp only [List.set_cons_zero])
  refine wpAnyH_take (i := 18) (v := ?_) opAt18 (by kernel_rfl) (by kernel_rfl) (by kernel_rfl) (fun _ _ _ h => h) (Or.inl ⟨by rfl, ?_⟩) hHeld ?_
  case refine_2 => (intro w hSw; (try dsimp only at hSw); go_simp; all_goals (with_reducible rfl))
  (try simp only [Act.put]); (try simp only [List.setIfInBounds_toArray]); (try simp only [List.set_cons_succ]); (try simp only [List.set_cons_zero])
  refine wpAnyH_take (i := 19) (v := ?_) opAt19 (by kernel_rfl) (by kernel_rfl) (by kernel_rfl) (fun _ _ _ h => h) (Or.inl ⟨by rfl, ?_⟩) hHeld ?_
  case refine_2 => (intro w hSw; (try dsimp only at hSw); go_simp; all_goals (with_reducible rfl))
  (try simp only [Act.put]); (try simp only [List.setIfInBounds_toArray]); (try simp only [List.set_cons_succ]); (try simp only [List.set_cons_zero])
  refine wpAnyH_take (i := 20) (v := ?_) opAt20 (by kernel_rfl) (by kernel_rfl) (by kernel_rfl) (fun _ _ _ h => h) (Or.inl ⟨by rfl, ?_⟩) hHeld ?_
  case refine_2 => (intro w hSw; (try dsimp only at hSw); go_simp; all_goals (with_reducible rfl))
  (try simp only [Act.put]); (try simp only [List.setIfInBounds_toArray]); (try simp only [List.set_cons_succ]); (try simp only [List.set_cons_zero])
  refine wpAnyH_take (i := 21) (v := ?_) opAt21 (by kernel_rfl) (by kernel_rfl) (by kernel_rfl) (fun _ _ _ h => h) (Or.inl ⟨by rfl, ?_⟩) hHeld ?_
  case refine_2 => (intro w hSw; (try dsimp only at hSw); go_simp; all_goals (with_reducible rfl))
  (try simp only [Act.put]); (try simp only [List.setIfInBounds_toArray]); (try simp only [List.set_cons_succ]); (try simp only [List.set_cons_zero])
  refine wpAnyH_take (i := 22) (v := ?_) opAt22 (by kernel_rfl) (by kernel_rfl) (by kernel_rfl) (fun _ _ _ h => h) (Or.inl ⟨by rfl, ?_⟩) hHeld ?_
  case refine_2 => (intro w hSw; (try dsimp only at hSw); go_simp; all_goals (with_reducible rfl))
  (try simp only [Act.put]); (try simp only [List.setIfInBounds_toArray]); (try simp only [List.set_cons_succ]); (try simp only [List.set_cons_zero])
  refine wpAnyH_take (i := 23) (v := ?_) opAt23 (by kernel_rfl) (by kernel_rfl) (by kernel_rfl) (fun _ _ _ h => h) (Or.inl ⟨by rfl, ?_⟩) hHeld ?_
  case refine_2 => (intro w hSw; (try dsimp only at hSw); go_simp; all_goals (with_reducible rfl))
  (try simp only [Act.put]); (try simp only [List.setIfInBounds_toArray]); (try simp only [List.set_cons_succ]); (try simp only [List.set_cons_zero])
  refine wpAnyH_take (i := 24) (v := ?_) opAt24 (by kernel_rfl) (by kernel_rfl) (by kernel_rfl) (fun _ _ _ h => h) (Or.inl ⟨by rfl, ?_⟩) hHeld ?_
  case refine_2 => (intro w hSw; (try dsimp only at hSw); go_simp; all_goals (with_reducible rfl))
  (try simp only [Act.put]); (try simp only [List.setIfInBounds_toArray]); (try simp only [List.set_cons_succ]); (try simp only [List.set_cons_zero])
  refine wpAnyH_ready (rs := [14]) (by kernel_rfl) (by simp) ?_
  refine AllReadyH.cons opAt14 (fun K hK => ?_) AllReadyH.nil
  go_simp
  go_at_call 38; refine (cell_cmp2 ci ck _).mono ?_; rintro e w4 ⟨rfl, Kw4⟩; dsimp only
  refine hK.out _ _ ?_ (fun hHeld => ?_)
  · refine ⟨Kw4.cell hHeld.1 (fun f => f), Kw4.cell hHeld.2.1 (fun f => f), Kw4.cell hHeld.2.2.1 (fun f => f), Kw4.cell hHeld.2.2.2.1 (fun f => f), Kw4.cell hHeld.2.2.2.2.1 (fun f => f), Kw4.cell hHeld.2.2.2.2.2.1 (fun f => f), Kw4.cell hHeld.2.2.2.2.2.2.1 (fun f => f), Kw4.cell hHeld.2.2.2.2.2.2.2.1 (fun f => f), Kw4.cell hHeld.2.2.2.2.2.2.2.2.1 (fun f => f), Kw4.cell hHeld.2.2.2.2.2.2.2.2.2 (fun f => f)⟩
  clear hK K
  (try simp only [Act.put]); (try simp only [List.setIfInBounds_toArray]); (try simp only [List.set_cons_succ]); (try simp only [List.set_cons_zero])
  refine wpAnyH_ready (rs := [25]) (by kernel_rfl) (by simp) ?_
  refine AllReadyH.cons opAt25 (fun K hK => ?_) AllReadyH.nil
  go_simp
  go_at_call 45; refine (cmp_int ri.place rk.place _).mono ?_; rintro e w5 ⟨rfl, rfl⟩; dsimp only
  refine hK.out _ _ ?_ (fun hHeld => ?_)
  · exact hHeld
  clear hK K
  (try simp only [Act.put]); (try simp only [List.setIfInBounds_toArray]); (try simp only [List.set_cons_succ]); (try simp only [List.set_cons_zero])
  refine wpAnyH_ready (rs := [26]) (by kernel_rfl) (by simp) ?_
  refine AllReadyH.cons opAt26 (fun K hK => ?_) AllReadyH.nil
  go_simp
  skip
  refine hK.out _ _ ?_ (fun hHeld => ?_)
  · refine ⟨((Kept.refl (fun _ => False) _).alloc (Obj.cells #[Value.int .i64 (cmpC ci ck), Value.int .i64 (cmpI ri.place rk.place)] 3)).cell hHeld.1 (fun f => f), ((Kept.refl (fun _ => False) _).alloc (Obj.cells #[Value.int .i64 (cmpC ci ck), Value.int .i64 (cmpI ri.place rk.place)] 3)).cell hHeld.2.1 (fun f => f), ((Kept.refl (fun _ => False) _).alloc (Obj.cells #[Value.int .i64 (cmpC ci ck), Value.int .i64 (cmpI ri.place rk.place)] 3)).cell hHeld.2.2.1 (fun f => f), ((Kept.refl (fun _ => False) _).alloc (Obj.cells #[Value.int .i64 (cmpC ci ck), Value.int .i64 (cmpI ri.place rk.place)] 3)).cell hHeld.2.2.2.1 (fun f => f), ((Kept.refl (fun _ => False) _).alloc (Obj.cells #[Value.int .i64 (cmpC ci ck), Value.int .i64 (cmpI ri.place rk.place)] 3)).cell hHeld.2.2.2.2.1 (fun f => f), ((Kept.refl (fun _ => False) _).alloc (Obj.cells #[Value.int .i64 (cmpC ci ck), Value.int .i64 (cmpI ri.place rk.place)] 3)).cell hHeld.2.2.2.2.2.1 (fun f => f), ((Kept.refl (fun _ => False) _).alloc (Obj.cells #[Value.int .i64 (cmpC ci ck), Value.int .i64 (cmpI ri.place rk.place)] 3)).cell hHeld.2.2.2.2.2.2.1 (fun f => f), ((Kept.refl (fun _ => False) _).alloc (Obj.cells #[Value.int .i64 (cmpC ci ck), Value.int .i64 (cmpI ri.place rk.place)] 3)).cell hHeld.2.2.2.2.2.2.2.1 (fun f => f), ((Kept.refl (fun _ => False) _).alloc (Obj.cells #[Value.int .i64 (cmpC ci ck), Value.int .i64 (cmpI ri.place rk.place)] 3)).cell hHeld.2.2.2.2.2.2.2.2.1 (fun f => f), ((Kept.refl (fun _ => False) _).alloc (Obj.cells #[Value.int .i64 (cmpC ci ck), Value.int .i64 (cmpI ri.place rk.place)] 3)).cell hHeld.2.2.2.2.2.2.2.2.2 (fun f => f)⟩
  clear hK K
  (try simp only [Act.put]); (try simp only [List.setIfInBounds_toArray]); (try simp only [List.set_cons_succ]); (try simp only [List.set_cons_zero])
  refine wpAnyH_ready (rs := [27]) (by kernel_rfl) (by simp) ?_
  refine AllReadyH.cons opAt27 (fun K hK => ?_) AllReadyH.nil
  go_simp
  go_at_call 43; refine (or_two _ _ (cmpC ci ck) (cmpI ri.place rk.place) _ ?_ ?_).mono ?_; (simp [go_sem]); (simp [go_sem]); rintro e w7 ⟨rfl, rfl⟩; dsimp only
  refine hK.out _ _ ?_ (fun hHeld => ?_)
  · exact hHeld
  clear hK K
  (try simp only [Act.put]); (try simp only [List.setIfInBounds_toArray]); (try simp only [List.set_cons_succ]); (try simp only [List.set_cons_zero])
  refine wpAnyH_take (i := 28) (v := ?_) opAt28 (by kernel_rfl) (by kernel_rfl) (by kernel_rfl) (fun _ _ _ h => h) (Or.inl ⟨by rfl, ?_⟩) hHeld ?_
  case refine_2 => (intro w hSw; (try dsimp only at hSw); go_simp; all_goals (with_reducible rfl))
  (try simp only [Act.put]); (try simp only [List.setIfInBounds_toArray]); (try simp only [List.set_cons_succ]); (try simp only [List.set_cons_zero])
  refine wpAnyH_take (i := 29) (v := ?_) opAt29 (by kernel_rfl) (by kernel_rfl) (by kernel_rfl) (fun _ _ _ h => h) (Or.inl ⟨by rfl, ?_⟩) hHeld ?_
  case refine_2 => (intro w hSw; (try dsimp only at hSw); go_simp; all_goals (with_reducible rfl))
  (try simp only [Act.put]); (try simp only [List.setIfInBounds_toArray]); (try simp only [List.set_cons_succ]); (try simp only [List.set_cons_zero])
  refine wpAnyH_done (by kernel_rfl) ?_ _
  go_wp2
  go_ret
  exact ⟨by rw [ltR_eq hi hk]; rfl, hKw ⟨Kw4, (Kept.refl (fun _ => False) _).alloc _⟩⟩
/-- Less, of two rows of a heap. -/
theorem less_heap {w : World} {base p : Nat} {v : Value} {l : List Rw} (h : HeapAt w base p v l) (i k : Nat) (hi : i < l.length) (hk : k < l.length) :
    Calls Try.prog 66 #[v, .int .i64 i, .int .i64 k] w fun e w' => e = .returned (.bool (ltR (nth l i) (nth l k))) ∧ Kept (fun _ => False) w w' := by
  obtain ⟨g, cap, rfl, _⟩ := h.form (by omega)
  obtain ⟨a0, a1⟩ := h.rowAt hi
  obtain ⟨b0, b1⟩ := h.rowAt hk
  have gi := h.good _ (nth_mem hi)
  have gk := h.good _ (nth_mem hk)
  obtain ⟨c0, c1, c2⟩ := gi.hd
  obtain ⟨d0, d1, d2⟩ := gk.hd
  exact less_any w g l.length cap i k (nth l i) (nth l k) _ _ rfl rfl gi.ne gk.ne hi hk a0 a1 b0 b1 c0 c1 c2 d0 d1 d2

theorem len_rows (v : Value) (a : Option Addr) (n cap : Nat) (w : World) (hv : v = .slice a n cap) : Calls Try.prog 65 #[v] w fun e w' => e = .returned (.int .i64 n) ∧ w = w' := by
  subst hv
  go_enter Try.func65, Try.ntmps65
  go_wp2
  go_ret
  exact ⟨rfl, rfl⟩

/-- A row is stored. -/
theorem own_set {w : World} {base g n cap : Nat} {l : List Rw} (h : w.ownsRow base 58 2 (.slice (some ⟨g, 0, none⟩) n cap) n (cellsH l)) (i : Nat) (r : Rw) :
    ((w.setCell ⟨g, i * 2, none⟩ (.slice (some ⟨r.blk, r.off, none⟩) r.xs.length r.cap)).setCell ⟨g, i * 2 + 1, none⟩ (.int .i64 r.place)).ownsRow base 58 2 (.slice (some ⟨g, 0, none⟩) n cap) n (cellsH (l.set i r)) := by
  rw [cellsH_set]
  exact ((h.stored _ _).1.stored _ _).1
theorem HeapAt.moved {w w' : World} {base p g cap : Nat} {l l' : List Rw} (h : HeapAt w base p (.slice (some ⟨g, 0, none⟩) l.length cap) l) (hK : Kept (fun b => g = b) w w') (hp : l'.Perm l)
    (ho : w'.ownsRow base 58 2 (.slice (some ⟨g, 0, none⟩) l.length cap) l.length (cellsH l')) : HeapAt w' base p (.slice (some ⟨g, 0, none⟩) l.length cap) l' := by
  have hgp : g ≠ p := fun e => h.np (by rw [← e]; rfl)
  refine ⟨hK.cell h.cell hgp, hK.frozen h.fz (World.block_lt_of_cell? _ _ h.cell) hgp, ?_, fun r hr => ?_, h.np, fun r hr => h.nr r (hp.mem_iff.1 hr), by rw [hp.length_eq]; exact h.few⟩
  · rw [hp.length_eq]; exact ho
  · have hr' := hp.mem_iff.1 hr
    exact (h.good r hr').kept hK (fun e => (h.nr r hr').2 (by rw [← e]; rfl))

set_option maxHeartbeats 2000000 in
theorem swap_heap {w : World} {base p : Nat} {v : Value} {l : List Rw} (h : HeapAt w base p v l) (i k : Nat) (hi : i < l.length) (hk : k < l.length) :
    Calls Try.prog 67 #[v, .int .i64 i, .int .i64 k] w fun e w' => e = .returned (.tuple #[]) ∧ HeapAt w' base p v (swapL l i k) ∧ Kept (fun b => v.ownBlock = some b) w w' := by
  obtain ⟨g, cap, rfl, _⟩ := h.form (by omega)
  obtain ⟨a0, a1⟩ := h.rowAt hi
  obtain ⟨b0, b1⟩ := h.rowAt hk
  have i1 : (0 : Int) ≤ (i : Int) := by omega
  have i2 : (i : Int) < (l.length : Int) := by omega
  have i3 : (0 : Int) ≤ (k : Int) := by omega
  have i4 : (k : Int) < (l.length : Int) := by omega
  have hfin : HeapAt ((((w.setCell ⟨g, i * 2, none⟩ (.slice (some ⟨(nth l k).blk, (nth l k).off, none⟩) (nth l k).xs.length (nth l k).cap)).setCell ⟨g, i * 2 + 1, none⟩ (.int .i64 (nth l k).place)).setCell ⟨g, k * 2, none⟩ (.slice (some ⟨(nth l i).blk, (nth l i).off, none⟩) (nth l i).xs.length (nth l i).cap)).setCell ⟨g, k * 2 + 1, none⟩ (.int .i64 (nth l i).place)).drew base p (.slice (some ⟨g, 0, none⟩) l.length cap) (swapL l i k) ∧
      Kept (fun b => g = b) w ((((w.setCell ⟨g, i * 2, none⟩ (.slice (some ⟨(nth l k).blk, (nth l k).off, none⟩) (nth l k).xs.length (nth l k).cap)).setCell ⟨g, i * 2 + 1, none⟩ (.int .i64 (nth l k).place)).setCell ⟨g, k * 2, none⟩ (.slice (some ⟨(nth l i).blk, (nth l i).off, none⟩) (nth l i).xs.length (nth l i).cap)).setCell ⟨g, k * 2 + 1, none⟩ (.int .i64 (nth l i).place)).drew := by
    have hK : Kept (fun b => g = b) w ((((w.setCell ⟨g, i * 2, none⟩ (.slice (some ⟨(nth l k).blk, (nth l k).off, none⟩) (nth l k).xs.length (nth l k).cap)).setCell ⟨g, i * 2 + 1, none⟩ (.int .i64 (nth l k).place)).setCell ⟨g, k * 2, none⟩ (.slice (some ⟨(nth l i).blk, (nth l i).off, none⟩) (nth l i).xs.length (nth l i).cap)).setCell ⟨g, k * 2 + 1, none⟩ (.int .i64 (nth l i).place)).drew :=
      Kept.drew (Kept.setAt (fun _ => rfl) (Kept.setAt (fun _ => rfl) (Kept.setAt (fun _ => rfl) (Kept.setAt (fun _ => rfl) (Kept.refl _ w)))))
    refine ⟨h.moved hK (perm_swap l hi hk) ?_, hK⟩
    exact (own_set (own_set h.own i (nth l k)) k (nth l i)).drew
  obtain ⟨ri, hri⟩ : ∃ r, nth l i = r := ⟨_, rfl⟩
  obtain ⟨rk, hrk⟩ : ∃ r, nth l k = r := ⟨_, rfl⟩
  have hf := fun j => h.own.frozenAt j
  rw [hri] at a0 a1 hfin
  rw [hrk] at b0 b1 hfin
  have H := Lib.hid h; have RI := Lib.hid hri; have RK := Lib.hid hrk; have FIN := Lib.hid hfin
  clear h hri hrk hfin
  have x1 : ¬ i * 2 = k * 2 + 1 := by omega
  have x2 : ¬ i * 2 + 1 = k * 2 := by omega
  have x3 : ¬ k * 2 = i * 2 + 1 := by omega
  have x4 : ¬ k * 2 + 1 = i * 2 := by omega
  have hown : ∀ g' : Nat, (Value.slice (some ⟨g, 0, none⟩) l.length cap).ownBlock = some g' ↔ g = g' := fun g' => by simp [Value.ownBlock]
  simp only [hown]
  clear hown
  by_cases hik : i = k
  · subst hik
    obtain rfl : ri = rk := RI.out.symm.trans RK.out
    go_enter Try.func67, Try.ntmps67
    go_region
    all_goals go_wp2
    all_goals go_end0
    all_goals exact ⟨rfl, FIN.out⟩
  · have hki : ¬ k = i := fun e => hik e.symm
    go_enter Try.func67, Try.ntmps67
    go_region
    all_goals go_wp2
    all_goals go_end0
    all_goals exact ⟨rfl, FIN.out⟩

end Go.Proofs.Ytfhpjopdndnmgaa
