/- What a model comes to by acts, and what is told of it: plain lists. -/
import Derived.Test.YtibakmchgppndaaActs
namespace Go.Proofs.Ytibakmchgppndaa
open Go.RowKit

def runA : List ActP → Int → List Spn → Int × List Spn
  | [], now, M => (now, M)
  | a :: t, now, M => runA t (now + a.ticks) (takeF (now + a.ticks) a.spans M []).1
theorem drop_act {A : List ActP} {i : Nat} {a : ActP} (h : A[i]? = some a) : A.drop i = a :: A.drop (i + 1) := by
  obtain ⟨hl, e⟩ := List.getElem?_eq_some_iff.1 h
  rw [← e]; exact List.drop_eq_getElem_cons hl
/-- Rising by trace and ID. -/
def StrictS (L : List Spn) : Prop := L.Pairwise keyLt
theorem strict_of {L : List Spn} (h : SortedS L) (hn : (L.map keyOf).Nodup) : StrictS L := by
  have hp : L.Pairwise (fun x y => keyOf x ≠ keyOf y) := List.pairwise_map.1 hn
  refine (h.and hp).imp (fun {x y} hxy => ?_)
  obtain ⟨h1, h2⟩ := hxy
  unfold keyLt at *
  have h3 : ¬ (x.tr = y.tr ∧ x.id = y.id) := fun e => h2 (by unfold keyOf; rw [e.1, e.2])
  omega
theorem lt_asymm {x y : Spn} (h1 : keyLt x y) (h2 : keyLt y x) : False := by unfold keyLt at *; omega
theorem strict_unique : ∀ {a b : List Spn}, a.Perm b → StrictS a → StrictS b → a = b
  | [], b, hp, _, _ => hp.nil_eq
  | x :: r, [], hp, _, _ => absurd hp.symm.nil_eq (by simp)
  | x :: r, y :: s, hp, h1, h2 => by
    obtain ⟨p1, q1⟩ := List.pairwise_cons.1 h1
    obtain ⟨p2, q2⟩ := List.pairwise_cons.1 h2
    have hxy : x = y := by
      rcases List.mem_cons.1 (hp.subset List.mem_cons_self) with e | hx
      · exact e
      · rcases List.mem_cons.1 (hp.symm.subset List.mem_cons_self) with e | hy
        · exact e.symm
        · exact (lt_asymm (p1 y hy) (p2 x hx)).elim
    subst hxy
    rw [strict_unique ((List.perm_cons x).1 hp) q1 q2]
theorem Held.live {M : List Spn} (h : Held M) (now : Int) : Held (liveF now M) :=
  ⟨fun m hm => h.may m (List.mem_filter.1 hm).1, (List.filter_sublist.map keyOf).nodup h.once⟩
theorem Held.perm {M L : List Spn} (h : Held M) (hp : L.Perm M) : Held L :=
  ⟨fun m hm => h.may m (hp.subset hm), (hp.map keyOf).nodup_iff.2 h.once⟩
theorem live_strict {M R : List Spn} {now : Int} (h : Held M) (hp : R.Perm (liveF now M)) (hs : SortedS R) : StrictS R := strict_of hs ((h.live now).perm hp).once
theorem live_later {now later : Int} (h : now ≤ later) (M : List Spn) : liveF later (liveF now M) = liveF later M := by
  unfold liveF
  rw [List.filter_filter]
  congr 1
  funext m
  unfold lateB
  by_cases c : (60 : Int) ≤ later - m.st
  · simp [c]
  · have : ¬ (60 : Int) ≤ now - m.st := by omega
    simp [c, this]
/-- What is there later is what was there, less what has expired. -/
theorem live_next {M R1 R3 : List Spn} {now later : Int} (hh : Held M) (h : now ≤ later) (p1 : R1.Perm (liveF now M)) (s1 : SortedS R1) (p3 : R3.Perm (liveF later M)) (s3 : SortedS R3) : R3 = liveF later R1 := by
  refine strict_unique ?_ (live_strict hh p3 s3) ?_
  · have := p1.filter (fun m : Spn => !lateB m.st later)
    rw [show (liveF now M).filter (fun m : Spn => !lateB m.st later) = liveF later M from live_later h M] at this
    exact p3.trans this.symm
  · exact List.Pairwise.filter _ (live_strict hh p1 s1)
theorem live_mem {M R : List Spn} {now : Int} (hp : R.Perm (liveF now M)) : ∀ s ∈ R, s ∈ M ∧ lateB s.st now = false := fun s hs => by
  have := List.mem_filter.1 (hp.subset hs)
  exact ⟨this.1, by simpa using this.2⟩
theorem strict_step {R : List Spn} (h : StrictS R) {i : Nat} {x y : Spn} (hx : R[i]? = some x) (hy : R[i + 1]? = some y) : keyLt x y := by
  obtain ⟨l1, e1⟩ := List.getElem?_eq_some_iff.1 hx
  obtain ⟨l2, e2⟩ := List.getElem?_eq_some_iff.1 hy
  have := (List.pairwise_iff_getElem.1 h) i (i + 1) l1 l2 (by omega)
  rw [e1, e2] at this
  exact this
theorem ReadsS.kept_map {w w' : World} {v : Value} {L : List Spn} {b : Nat} {X : List KV} (h : ReadsS w v L) (hm : MapIs w b X) (hK : Kept (fun k => k = b) w w') : ReadsS w' v L := by
  obtain ⟨ao, cap, rfl, h⟩ := h
  refine ⟨ao, cap, rfl, ?_⟩
  cases L with
  | nil => exact .inl rfl
  | cons m t =>
    rcases h with h | ⟨g, o, rfl, hc⟩
    · cases h
    · have hg : ¬ g = b := fun e => by
        have h0 := hc 0 (.int .i64 m.tr) rfl
        rw [e, hm.not_cell] at h0
        cases h0
      exact .inr ⟨g, o, rfl, fun j u hu => hK.cell (hc j u hu) hg⟩
theorem live_take (now : Int) (R : List Spn) {i : Nat} {x : Spn} (h : R[i]? = some x) : liveF now (R.take (i + 1)) = liveF now (R.take i) ++ liveF now [x] := by
  rw [List.take_add_one, h]
  unfold liveF
  rw [List.filter_append]
  rfl
theorem live_len (now : Int) (R : List Spn) : (liveF now R).length ≤ R.length := List.length_filter_le _ _
end Go.Proofs.Ytibakmchgppndaa
