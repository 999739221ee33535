/- Appending a stretch of a list that may be nil. -/
import Derived.Test.YtjidldbolbjdpaaTof
namespace Go.Proofs.Ytjidldbolbjdpaa
open Go.RowKit

/-- What is appended: so many elements that lie somewhere, or none of a nil slice. -/
def Src (w : World) (x : Value) (m : Nat) (news : List Value) : Prop := ∃ xa c, x = .slice xa m c ∧ ((xa = none ∧ m = 0 ∧ news = []) ∨ ∃ ad, xa = some ad ∧ ∀ j u, news[j]? = some u → w.cell? (ad.add j) = some u)
theorem Src.kept {w w' : World} {x : Value} {m : Nat} {news : List Value} (h : Src w x m news) (K : Kept (fun _ => False) w w') : Src w' x m news := by
  obtain ⟨xa, c, e, h⟩ := h
  exact ⟨xa, c, e, h.imp id (fun ⟨ad, e2, hc⟩ => ⟨ad, e2, fun j u hu => K.cell (hc j u hu) (fun f => f)⟩)⟩
theorem run_append_none {P : Program} (w : World) (t ty e : TypeId) (i : TypeInfo) (ht : P.underlying t = some (.slice e)) (hi : P.info? e = some i) (b : Option Addr) (n c c' : Nat) (hnc : n ≤ c) :
    (Builtin.append_ #[t, t] ty #[.slice b n c, .slice none 0 c']).run P w = .ok (.slice b n c) w := by
  cases b <;> simp [Builtin.append_, underlying, sizeOf, typeInfo, ht, hi, Builtin.lenOf, hnc, Builtin.firstCells, storeCells, go_sem]
theorem step_appG {P : Program} {ops : Array Oper} {o : Oper} {a : Act} {w : World} {K : Act → World → Prop} {Q : Exit → Act → World → Prop} {E : Prop} (hgd : o.guard = none) (s x : Operand) (t : TypeId)
    (ho : o.op = .call { callee := .builtin .append, args := #[s, x], argTypes := #[t, t] })
    (base : Nat) (e : TypeId) (i : TypeInfo) (z : Value) (size bytes : Nat) (ht : P.underlying t = some (.slice e)) (hi : P.info? e = some i) (hz : i.zero = some z)
    (hsize : i.size = size) (hby : i.bytes = bytes) (hzs : z.cells.size = size) (hsz : 0 < size)
    (v : Value) (n : Nat) (xs : List Value) (hs : a.eval s = v) (hown : w.ownsRow base e size v n xs)
    (m : Nat) (news : List Value) (xv : Value) (hxv : a.eval x = xv) (hx : Src w xv m news) (hl : news.length = m * size) (h1 : ∀ u ∈ news, u.oneCell' = true)
    (h63 : n + m ≤ maxLen) (hbytes : (n + m) * bytes ≤ 140737488355328) (hbase : base ≤ w.heap.size)
    (h : ∀ ao' cap' w', w'.ownsRow base e size (.slice ao' (n + m) cap') (n + m) (xs ++ news) → Kept (fun k => v.ownBlock = some k) w w' → ((Value.slice ao' (n + m) cap').ownBlock = v.ownBlock ∨ (Value.slice ao' (n + m) cap').ownBlock = some w.heap.size) → K (a.put o.dst (.slice ao' (n + m) cap')) w') :
    if Region.wanted o (yielded ops a.tmps) = true then Oper.wp P o a w K Q else E := by
  obtain ⟨xa, c, ex, hc⟩ := hx
  rw [← hxv] at ex
  rcases hc with ⟨rfl, rfl, rfl⟩ | ⟨ad, rfl, hnews⟩
  · rw [if_pos (by simp [Region.wanted, hgd])]
    have hf : ∃ b c', v = .slice b n c' ∧ n ≤ c' := by
      rcases row_form hown with ⟨e1, e2⟩ | ⟨g, c', e1, hle, _⟩
      · exact ⟨none, 0, by rw [e1, e2], by omega⟩
      · exact ⟨_, c', e1, hle⟩
    obtain ⟨b, c', rfl, hle⟩ := hf
    unfold Oper.wp execOp
    simp only [ho, resolve, invoke, builtin, Sem.run_bind, Sem.run_pure, Result.andThen_ok, List.map_toArray, List.map_cons, List.map_nil, hs, ex, run_append_none w t o.type e i ht hi b n c' c hle]
    exact h b c' w (by rw [List.append_nil]; exact hown) (Kept.refl _ w) (.inl rfl)
  · exact step_app hgd s x t ho base e i z size bytes ht hi hz hsize hby hzs hsz v n xs hs hown ad m c news ex hl hnews h1 h63 hbytes hbase (fun ao' cap' w' a1 a2 a3 => h ao' cap' w' a1 ((grown_kept a2).mono (fun k _ e => e)) a3)
theorem cellsS_take : ∀ (L : List Spn) (k : Nat), cellsS (L.take k) = (cellsS L).take (k * 8)
  | [], k => by simp [cellsS]
  | x :: t, 0 => by simp [cellsS]
  | x :: t, k + 1 => by
    have h8 : x.cells.length = 8 := rfl
    rw [List.take_succ_cons, cellsS, cellsS, cellsS_take t k, List.take_append, h8, List.take_of_length_le (l := x.cells) (by omega), show (k + 1) * 8 - 8 = k * 8 by omega]
theorem cellsS_drop : ∀ (L : List Spn) (k : Nat), cellsS (L.drop k) = (cellsS L).drop (k * 8)
  | [], k => by simp [cellsS]
  | x :: t, 0 => by simp [cellsS]
  | x :: t, k + 1 => by
    have h8 : x.cells.length = 8 := rfl
    rw [List.drop_succ_cons, cellsS, cellsS_drop t k, List.drop_append, h8, List.drop_of_length_le (l := x.cells) (by omega), List.nil_append, show (k + 1) * 8 - 8 = k * 8 by omega]
/-- The list up to a place, and from there on. -/
theorem slices_of {w : World} {base : Nat} {la : Option Addr} {n cap : Nat} {L : List Spn} (h : w.ownsRow base 24 8 (.slice la n cap) n (cellsS L)) (hl : L.length = n) (k : Nat) (hk : k ≤ n) :
    ∃ X1 X2, (∀ W, (Instr.slice 22 (.slice la n cap) none (some (.int .i64 (k : Int))) none).run Try.prog W = .ok X1 W) ∧ (∀ W, (Instr.slice 22 (.slice la n cap) (some (.int .i64 (k : Int))) none none).run Try.prog W = .ok X2 W) ∧
      Src w X1 k (cellsS (L.take k)) ∧ Src w X2 (n - k) (cellsS (L.drop k)) := by
  have i1 : (0 : Int) ≤ (k : Int) := by omega
  have i2 : (k : Int) ≤ (n : Int) := by omega
  rcases row_form h with ⟨e1, e2⟩ | ⟨g, c, e1, hle, _, _, hc⟩
  · cases e1
    obtain rfl : k = 0 := by omega
    obtain rfl := List.eq_nil_of_length_eq_zero hl
    exact ⟨.slice none 0 0, .slice none 0 0, fun W => by simp [go_sem], fun W => by simp [go_sem], ⟨none, 0, rfl, .inl ⟨rfl, rfl, rfl⟩⟩, ⟨none, 0, rfl, .inl ⟨rfl, rfl, rfl⟩⟩⟩
  · cases e1
    have i3 : (k : Int) ≤ (cap : Int) := by omega
    refine ⟨.slice (some ⟨g, 0, none⟩) k cap, .slice (some (if cap = k then ⟨g, 0, none⟩ else ⟨g, k * 8, none⟩)) (n - k) (cap - k), fun W => by simp [go_sem, i1, i3], fun W => ?_, ⟨_, cap, rfl, .inr ⟨_, rfl, fun j u hu => ?_⟩⟩, ⟨_, cap - k, rfl, .inr ⟨_, rfl, fun j u hu => ?_⟩⟩⟩
    · by_cases hcap : cap = k
      · obtain rfl : n = k := by omega
        subst hcap; simp [go_sem]
      · simp [go_sem, hcap, i1, i2]
    · rw [cellsS_take, List.getElem?_take] at hu
      split at hu
      · rw [add_mid, Nat.zero_add]; exact hc j u hu
      · cases hu
    · rw [cellsS_drop, List.getElem?_drop] at hu
      have hj := (List.getElem?_eq_some_iff.1 hu).1
      rw [cellsS_length] at hj
      rw [if_neg (by omega), add_mid]; exact hc _ u hu
end Go.Proofs.Ytjidldbolbjdpaa
