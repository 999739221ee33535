/- Plain laws: what counts does not hang on the order. And how a stretch of an argument reads. -/
import Derived.Test.YtjidldbolbjdpaaOnceP
import Derived.Test.YtjidldbolbjdpaaLawOf
namespace Go.Proofs.Ytjidldbolbjdpaa
open Go.ChangeShapes Go.WideShapes Go.ChangeAt Go.RowKit Go.Deep

/-- No two spans of one ID. -/
def Dist (L : List Spn) : Prop := ∀ x ∈ L, ∀ y ∈ L, x.id = y.id → x = y
theorem nth_mem {L : List Spn} {i : Nat} (h : i < L.length) : nth L i ∈ L := List.mem_of_getElem? (nth_get h)
theorem mem_nth {L : List Spn} {x : Spn} (h : x ∈ L) : ∃ i, i < L.length ∧ nth L i = x := by
  obtain ⟨i, hi, e⟩ := List.getElem_of_mem h
  have h2 := nth_get hi
  rw [List.getElem?_eq_getElem hi, e] at h2
  exact ⟨i, hi, (Option.some.inj h2).symm⟩
theorem dist_of {L : List Spn} (h : ∀ t, t < L.length → cntB L t = true) : Dist L := by
  intro x hx y hy e
  obtain ⟨i, hi, rfl⟩ := mem_nth hx
  obtain ⟨j, hj, rfl⟩ := mem_nth hy
  by_cases c : i = j
  · rw [c]
  · by_cases d : i < j
    · exact absurd e (cntB_iff.1 (h j hj) i d)
    · exact absurd e.symm (cntB_iff.1 (h i hi) j (by omega))
theorem dist_cnt {L : List Spn} (h : Dist L) (x : Spn) : x ∈ cntF L ↔ x ∈ L := by
  refine ⟨fun hx => (cntF_cnt L).mem hx, fun hx => ?_⟩
  obtain ⟨y, hy, e⟩ := (cntF_cnt L).all x hx
  rwa [← h y ((cntF_cnt L).mem hy) x hx e]
theorem cntF_order {L M : List Spn} (hd : Dist L) (hm : ∀ x, x ∈ M ↔ x ∈ L) : cntF M = cntF L := by
  have hdM : Dist M := fun x hx y hy e => hd x ((hm x).1 hx) y ((hm y).1 hy) e
  exact rise_unique (cntF_cnt M).rise (cntF_cnt L).rise (fun x => by rw [dist_cnt hdM, dist_cnt hd, hm])
theorem mem_swap {L : List Spn} {i j : Nat} (hi : i < L.length) (hj : j < L.length) (x : Spn) : x ∈ swapL L i j ↔ x ∈ L := by
  constructor
  · intro h
    obtain ⟨t, ht, rfl⟩ := mem_nth h
    rw [nth_swap L hi hj]
    split
    · exact nth_mem hi
    · split
      · exact nth_mem hj
      · exact nth_mem (by simpa using ht)
  · intro h
    obtain ⟨t, ht, rfl⟩ := mem_nth h
    by_cases c : t = i
    · have := nth_mem (L := swapL L i j) (i := j) (by simpa using hj)
      rw [nth_swap L hi hj, if_pos rfl] at this
      rwa [c]
    · by_cases d : t = j
      · have := nth_mem (L := swapL L i j) (i := i) (by simpa using hi)
        rw [nth_swap L hi hj] at this
        by_cases e : i = j
        · exact absurd (d.trans e.symm) c
        · rw [if_neg e, if_pos rfl] at this
          rwa [d]
      · have := nth_mem (L := swapL L i j) (i := t) (by simpa using ht)
        rwa [nth_swap L hi hj, if_neg d, if_neg c] at this
theorem mem_turn (L : List Spn) (k : Nat) (x : Spn) : x ∈ L.drop k ++ L.take k ↔ x ∈ L := by
  conv => rhs; rw [← List.take_append_drop k L]
  rw [List.mem_append, List.mem_append, or_comm]
theorem u8_bounds {k : Int} (h : (Lit.int .u8 k).wf = true) : 0 ≤ k ∧ k < 256 := by
  simp [Lit.wf, IntKind.min, IntKind.max, IntKind.signed, IntKind.bits] at h
  omega
section
variable {H : Type} {enc : TypeId × Value → H} {w : World} {spare : Nat → Bool} {held : Bool} {fuel : Nat} {x : DataW H × List MemPlace}
theorem spans_shape {a : Option Addr} {len cap : Nat} (h : DataW.trod enc Try.prog w 0 spare held fuel 22 [.slice a len cap] = some x) : len ≤ cap := by
  rcases open_slice Try.underlying22 h with ⟨hcs, _⟩ | ⟨b, len', cap', m, n, D, Pl, hcs, _, hl, hm, hmm, _, hel⟩
  · simp at hcs
    obtain ⟨rfl, rfl, rfl⟩ := hcs
    exact Nat.le_refl _
  · simp at hcs
    obtain ⟨rfl, rfl, rfl⟩ := hcs
    omega
end
/-- The list that was handed in up to a place, and from there on. -/
theorem slices_arg {w : World} {g o n cap : Nat} {L : List Spn} (hc : ∀ j u, (cellsS L)[j]? = some u → w.cell? ⟨g, o + j, none⟩ = some u) (hl : L.length = n) (hcap : n ≤ cap) (k : Nat) (hk : k ≤ n) :
    ∃ X1 X2, (∀ W, (Instr.slice 22 (.slice (some ⟨g, o, none⟩) n cap) none (some (.int .i64 (k : Int))) none).run Try.prog W = .ok X1 W) ∧ (∀ W, (Instr.slice 22 (.slice (some ⟨g, o, none⟩) n cap) (some (.int .i64 (k : Int))) none none).run Try.prog W = .ok X2 W) ∧
      Src w X1 k (cellsS (L.take k)) ∧ Src w X2 (n - k) (cellsS (L.drop k)) := by
  have i1 : (0 : Int) ≤ (k : Int) := by omega
  have i2 : (k : Int) ≤ (n : Int) := by omega
  have i3 : (k : Int) ≤ (cap : Int) := by omega
  refine ⟨.slice (some ⟨g, o, none⟩) k cap, .slice (some (if cap = k then ⟨g, o, none⟩ else ⟨g, o + k * 8, none⟩)) (n - k) (cap - k), fun W => by simp [go_sem, i1, i3], fun W => ?_, ⟨_, cap, rfl, .inr ⟨_, rfl, fun j u hu => ?_⟩⟩, ⟨_, cap - k, rfl, .inr ⟨_, rfl, fun j u hu => ?_⟩⟩⟩
  · by_cases hcap : cap = k
    · obtain rfl : n = k := by omega
      subst hcap; simp [go_sem]
    · simp [go_sem, hcap, i1, i2]
  · rw [cellsS_take, List.getElem?_take] at hu
    split at hu
    · rw [add_mid]; exact hc j u hu
    · cases hu
  · rw [cellsS_drop, List.getElem?_drop] at hu
    have hj := (List.getElem?_eq_some_iff.1 hu).1
    rw [cellsS_length] at hj
    rw [if_neg (by omega), add_mid, Nat.add_assoc]; exact hc _ u hu
theorem row_some2 {w : World} {base e size n cap : Nat} {a : Option Addr} {xs : List Value} (h : w.ownsRow base e size (.slice a n cap) n xs) (hn : 0 < n) : ∃ g, a = some ⟨g, 0, none⟩ ∧ n ≤ cap ∧ base ≤ g := by
  rcases row_form h with ⟨_, h⟩ | ⟨g, c, h, hle, hb, _⟩
  · omega
  · cases h; exact ⟨g, rfl, hle, hb⟩
end Go.Proofs.Ytjidldbolbjdpaa
