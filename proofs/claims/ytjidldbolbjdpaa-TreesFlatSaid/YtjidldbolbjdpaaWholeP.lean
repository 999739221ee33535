/- Plain laws: spans each of which has its parent ahead of it. And how []uint8 reads as an argument. -/
import Derived.Test.YtjidldbolbjdpaaKids2
import Derived.Test.YtjidldbolbjdpaaOrderP
namespace Go.Proofs.Ytjidldbolbjdpaa
open Go.ChangeShapes Go.WideShapes Go.ChangeAt Go.RowKit Go.Deep

structure Grows (L : List Spn) : Prop where
  rise : Rise L
  pos : ∀ x ∈ L, x.id ≠ 0
  up : ∀ x ∈ L, x.pa < x.id
  has : ∀ x ∈ L, x.pa ≠ 0 → ∃ y ∈ L, y.id = x.pa
theorem dist_rise {L : List Spn} (h : Rise L) : Dist L := by
  intro x hx y hy e
  obtain ⟨i, hi, rfl⟩ := mem_nth hx
  obtain ⟨j, hj, rfl⟩ := mem_nth hy
  rcases Nat.lt_trichotomy i j with c | c | c
  · have := rise_nth h c hj; omega
  · rw [c]
  · have := rise_nth h c hi; omega
theorem cnt_rise {L : List Spn} (h : Rise L) : cntF L = L := rise_unique (cntF_cnt L).rise h (dist_cnt (dist_rise h))
theorem it_down {R : List Spn} (hr : Rise R) (hu : ∀ x ∈ R, x.pa < x.id) {x : Nat} (hx : x < R.length) : ∀ t y, it (pF R) t x = some y → y ≤ x ∧ (0 < t → y < x)
  | 0, y, h => by simp [it] at h; subst h; exact ⟨Nat.le_refl _, fun h => by omega⟩
  | t + 1, y, h => by
    simp only [it, Option.bind_eq_some_iff] at h
    obtain ⟨z, h1, h2⟩ := h
    have ih := (it_down hr hu hx t z h1).1
    obtain ⟨hy, e, _⟩ := plF_spec h2
    have h3 := hu _ (nth_mem (L := R) (i := z) (by omega))
    have h4 : y < z := by
      rcases Nat.lt_trichotomy y z with c | c | c
      · exact c
      · subst c; omega
      · have := rise_nth hr c hy; omega
    exact ⟨by omega, fun _ => by omega⟩
theorem hdF_lost {R : List Spn} (hr : Rise R) (hu : ∀ x ∈ R, x.pa < x.id) {x : Nat} (hx : x < R.length) : hdF R x = lostF R x := by
  rw [Bool.eq_iff_iff, hdF_iff]
  refine ⟨fun h => h.resolve_right (fun ⟨⟨t, h0, h1⟩, _⟩ => ?_), .inl⟩
  have := (it_down hr hu hx t x h1).2 h0
  omega
theorem lost_iff {R : List Spn} {x : Nat} : lostF R x = true ↔ (nth R x).pa ≠ 0 ∧ pF R x = none := by
  unfold lostF
  cases h : pF R x with
  | none => simp [pInt]
  | some k =>
    have : ((k : Int) == -1) = false := by simp
    simp [pInt, this]
theorem orph_nil {L : List Spn} (h : Grows L) : orphF L = .nil := by
  have : orphL L L.length = [] := by
    unfold orphL
    rw [List.filter_eq_nil_iff]
    intro k hk
    have hk := List.mem_range.1 hk
    rw [hdF_lost h.rise h.up hk]
    intro hl
    obtain ⟨h1, h2⟩ := lost_iff.1 hl
    obtain ⟨y, hy, e⟩ := h.has _ (nth_mem hk) h1
    obtain ⟨j, hj, rfl⟩ := mem_nth hy
    have := plF_some h.rise h1 hj e
    unfold pF at h2
    rw [h2] at this; cases this
  rw [orphF, this]; rfl
section
variable {L : List Spn} {k : Nat}
theorem split_at (hk : k < L.length) : L = L.take k ++ nth L k :: L.drop (k + 1) := by
  conv => lhs; rw [← List.take_append_drop k L]
  congr 1
  rw [List.drop_eq_getElem_cons hk]
  congr 1
  have h1 := nth_get hk
  rw [List.getElem?_eq_getElem hk] at h1
  exact Option.some.inj h1
theorem mem_without (h : Rise L) (hk : k < L.length) (x : Spn) : x ∈ L.take k ++ L.drop (k + 1) ↔ x ∈ L ∧ x.id ≠ (nth L k).id := by
  have hs := split_at hk
  have hp := h
  rw [hs, Rise, List.pairwise_append, List.pairwise_cons] at hp
  constructor
  · intro hx
    rcases List.mem_append.1 hx with hx | hx
    · refine ⟨List.mem_of_mem_take hx, ?_⟩
      have := hp.2.2 x hx (nth L k) (by simp); omega
    · refine ⟨List.mem_of_mem_drop hx, ?_⟩
      have := hp.2.1.1 x hx; omega
  · rintro ⟨hx, hne⟩
    rw [hs] at hx
    rcases List.mem_append.1 hx with hx | hx
    · exact List.mem_append.2 (.inl hx)
    · rcases List.mem_cons.1 hx with hx | hx
      · subst hx; exact absurd rfl hne
      · exact List.mem_append.2 (.inr hx)
theorem rise_without (h : Rise L) (hk : k < L.length) : Rise (L.take k ++ L.drop (k + 1)) := by
  have hs := split_at hk
  have hp := h
  rw [hs] at hp
  exact List.Pairwise.sublist (List.Sublist.append (List.Sublist.refl _) (List.sublist_cons_self _ _)) hp
theorem head_without (h : Grows L) (hk : k < L.length) {j : Nat} (hj : j < (L.take k ++ L.drop (k + 1)).length) : hdF (L.take k ++ L.drop (k + 1)) j = ((nth (L.take k ++ L.drop (k + 1)) j).pa == (nth L k).id) := by
  have hm := mem_without h.rise hk
  have hr := rise_without h.rise hk
  generalize hM : L.take k ++ L.drop (k + 1) = M at *
  rw [hdF_lost hr (fun x hx => h.up x ((hm x).1 hx).1) hj, Bool.eq_iff_iff, lost_iff, beq_iff_eq]
  have hx := (hm _).1 (nth_mem hj)
  constructor
  · rintro ⟨h1, h2⟩
    obtain ⟨y, hy, e⟩ := h.has _ hx.1 h1
    by_cases c : y.id = (nth L k).id
    · omega
    · obtain ⟨i, hi, rfl⟩ := mem_nth ((hm y).2 ⟨hy, c⟩)
      have := plF_some hr h1 hi e
      unfold pF at h2
      rw [h2] at this; cases this
  · intro e
    have hz := h.pos _ (nth_mem hk)
    refine ⟨by omega, plF_none (fun i hi => ?_)⟩
    have := ((hm _).1 (nth_mem hi)).2
    omega
theorem len_without (hk : k < L.length) : (L.take k ++ L.drop (k + 1)).length = L.length - 1 := by
  rw [List.length_append, List.length_take, List.length_drop]; omega
theorem tops_without (h : Grows L) (hk : k < L.length) : ∀ x ∈ (orphF (L.take k ++ L.drop (k + 1))).tops, x.pa = (nth L k).id := by
  intro x hx
  rw [orphF, tops_forF] at hx
  obtain ⟨j, hj, rfl⟩ := List.mem_map.1 hx
  unfold orphL at hj
  obtain ⟨h1, h2⟩ := List.mem_filter.1 hj
  rw [head_without h hk (List.mem_range.1 h1)] at h2
  simpa using h2
end
/-- The list that TreesWhole lays: IDs from 1 on, each one's parent. -/
def whL (p : Nat → Nat) (n : Nat) : List Spn := (List.range n).map (fun i => someS ((i + 1 : Nat) : Int) ((p i : Nat) : Int))
theorem whL_len (p : Nat → Nat) (n : Nat) : (whL p n).length = n := by simp [whL]
theorem whL_snoc (p : Nat → Nat) (n : Nat) : whL p (n + 1) = whL p n ++ [someS ((n + 1 : Nat) : Int) ((p n : Nat) : Int)] := by
  simp [whL, List.range_succ]
theorem whL_nth (p : Nat → Nat) {n i : Nat} (h : i < n) : nth (whL p n) i = someS ((i + 1 : Nat) : Int) ((p i : Nat) : Int) := by
  have h1 := nth_get (l := whL p n) (k := i) (by rw [whL_len]; exact h)
  have h2 : (whL p n)[i]? = some (someS ((i + 1 : Nat) : Int) ((p i : Nat) : Int)) := by simp [whL, h]
  rw [h2] at h1
  exact (Option.some.inj h1).symm
theorem whL_grows (p : Nat → Nat) (hp : ∀ i, p i ≤ i) (n : Nat) : Grows (whL p n) := by
  have hm : ∀ x ∈ whL p n, ∃ i, i < n ∧ x = someS ((i + 1 : Nat) : Int) ((p i : Nat) : Int) := fun x hx => by
    obtain ⟨i, hi, e⟩ := List.mem_map.1 hx
    exact ⟨i, List.mem_range.1 hi, e.symm⟩
  refine ⟨?_, fun x hx => ?_, fun x hx => ?_, fun x hx h => ?_⟩
  · unfold Rise whL
    rw [List.pairwise_map]
    exact List.Pairwise.imp (fun {a b} h => by simp only [someS]; omega) List.pairwise_lt_range
  · obtain ⟨i, _, rfl⟩ := hm x hx
    simp only [someS]; omega
  · obtain ⟨i, _, rfl⟩ := hm x hx
    have := hp i
    simp only [someS]; omega
  · obtain ⟨i, hi, rfl⟩ := hm x hx
    have := hp i
    simp only [someS] at h
    refine ⟨nth (whL p n) (p i - 1), nth_mem (by rw [whL_len]; omega), ?_⟩
    rw [whL_nth p (by omega)]
    simp only [someS]; omega

section
variable {H : Type} {enc : TypeId × Value → H} {w : World} {spare : Nat → Bool} {held : Bool} {fuel : Nat} {x : DataW H × List MemPlace}
theorem cellsOf5 : Try.prog.cellsOf 5 = 1 := by kernel_rfl
theorem u8s_open {a : Option Addr} {len cap : Nat} (h : DataW.trod enc Try.prog w 0 spare held fuel 42 [.slice a len cap] = some x) :
    ∃ us : List Int, us.length = len ∧ len ≤ maxLen ∧ (us = [] ∨ ∃ g o, a = some ⟨g, o, none⟩ ∧ ∀ j u, us[j]? = some u → w.cell? ⟨g, o + j, none⟩ = some (.int .u8 u)) ∧ ∀ u ∈ us, 0 ≤ u ∧ u < 256 := by
  rcases open_slice Try.underlying42 h with ⟨hcs, _⟩ | ⟨b, len', cap', m, n, D, Pl, hcs, _, hl, hm, hmm, _, hel⟩
  · simp at hcs
    obtain ⟨rfl, rfl, rfl⟩ := hcs
    exact ⟨[], rfl, by simp, .inl rfl, fun u hu => by cases hu⟩
  · simp at hcs
    obtain ⟨rfl, rfl, rfl⟩ := hcs
    have hlm : len ≤ m := by rw [hmm]; split <;> omega
    rw [cellsOf5] at hel
    obtain ⟨f, hf⟩ := choose_lt (n := len) (p := fun i (y : Int) => w.cell? (b.add i) = some (.int .u8 y) ∧ 0 ≤ y ∧ y < 256) (fun i hi => by
      obtain ⟨cs', h1, h2⟩ := hel i (by omega)
      obtain ⟨y, e, _, hb⟩ := DataW.trod_int Try.underlying5 h2
      subst e
      obtain ⟨_, hg⟩ := cells_get h1
      have := hg 0 _ rfl
      rw [Nat.mul_one] at this
      have e0 : (b.add i).add 0 = b.add i := by unfold Addr.add; split <;> simp_all
      rw [e0] at this
      exact ⟨y, this, u8_bounds hb⟩)
    refine ⟨(List.range len).map f, by simp, by omega, ?_, fun y hy => ?_⟩
    · by_cases h0 : len = 0
      · left; subst h0; rfl
      · right
        have hspot : b.spot = none := by
          have := (hf 0 (by omega)).1
          have := World.cell?_spot this
          simpa [Addr.add] using this
        obtain ⟨bb, bo, bs⟩ := b
        simp at hspot; subst hspot
        refine ⟨bb, bo, rfl, fun j u hu => ?_⟩
        have hl2 := (List.getElem?_eq_some_iff.1 hu).1
        simp at hl2
        have hgm : ((List.range len).map f)[j]? = some (f j) := by simp [hl2]
        rw [hgm] at hu
        cases hu
        have := (hf j hl2).1
        rwa [add_mid] at this
    · obtain ⟨i, hi, rfl⟩ := List.mem_map.1 hy
      exact (hf i (by simpa using hi)).2
end
end Go.Proofs.Ytjidldbolbjdpaa
