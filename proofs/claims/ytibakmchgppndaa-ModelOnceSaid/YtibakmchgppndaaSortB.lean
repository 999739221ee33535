/- slices.SortFunc at an owned row of spans: a sorted row of the same spans lies there. -/
import Derived.Test.YtibakmchgppndaaSortA
namespace Go.Proofs.Ytibakmchgppndaa
open Go.RowKit Go.Shelf Go.Lib Go.Sort

def keyLt (x y : Spn) : Prop := x.tr < y.tr ∨ x.tr = y.tr ∧ x.id < y.id
instance (x y : Spn) : Decidable (keyLt x y) := by unfold keyLt; infer_instance
theorem lt_cmpS (x y : Spn) : ltOf cmpS x y = decide (keyLt x y) := by
  have h : cmpS x y < 0 ↔ keyLt x y := by
    unfold cmpS orI cmpI keyLt
    (repeat' split) <;> omega
  unfold ltOf
  exact decide_eq_decide.2 h
theorem swoS : SWO (ltOf cmpS) where
  irrefl x := by rw [lt_cmpS, decide_eq_false_iff_not]; unfold keyLt; omega
  trans x y z h1 h2 := by rw [lt_cmpS, decide_eq_true_eq] at h1 h2 ⊢; unfold keyLt at *; omega
  ntrans x y z h1 h2 := by rw [lt_cmpS, decide_eq_false_iff_not] at h1 h2 ⊢; unfold keyLt at *; omega
/-- No later one comes ahead of an earlier one. -/
def SortedS (L : List Spn) : Prop := L.Pairwise (fun x y => ¬ keyLt y x)
theorem sorted_of_in {d : Array Spn} (h : SortedIn (ltOf cmpS) 0 d.size d) : SortedS d.toList := by
  unfold SortedS
  rw [List.pairwise_iff_getElem]
  intro i j hi hj hij
  have := h i j (Nat.zero_le _) hij (by simpa using hj)
  rw [lt_cmpS] at this
  have hi' : i < d.size := by simpa using hi
  have hj' : j < d.size := by simpa using hj
  rw [getElem!_pos d i hi', getElem!_pos d j hj'] at this
  simpa using this
theorem perm_of_in {d d' : Array Spn} (h : PermIn 0 d.size d d') : d'.toList.Perm d.toList := by
  obtain ⟨hs, _, hp⟩ := h
  have e1 : d.extract 0 d.size = d := by simp
  have e2 : d'.extract 0 d.size = d' := by rw [← hs]; simp
  rwa [e1, e2] at hp
theorem agg37 (w : World) : (isAgg 37).run Try.prog w = .ok true w := by kernel_rfl
theorem size37 (w : World) : (Go.sizeOf 37).run Try.prog w = .ok 8 w := by kernel_rfl
theorem flat_at (d : List Spn) (j : Nat) (h : j < d.length * 8) : (cellsS d)[j]? = some (flatK Spn.cells 8 d.toArray)[j]! := by
  rw [get_flatK _ _ _ _ (by simpa using h)]
  have hq : j / 8 < d.length := by omega
  have hm : d[j / 8]? = some d[j / 8] := List.getElem?_eq_getElem hq
  have hr : j % 8 < 8 := Nat.mod_lt _ (by omega)
  have h1 := cellsS_at d (j / 8) _ hm (j % 8) hr
  rw [show j / 8 * 8 + j % 8 = j by omega] at h1
  rw [h1]
  have h2 : (d.toArray)[j / 8]! = d[j / 8] := by
    rw [getElem!_pos d.toArray (j / 8) (by simpa using hq)]; simp
  rw [h2]
  have hl : j % 8 < (d[j / 8].cells).length := hr
  rw [List.getElem?_eq_getElem hl]
  rw [getElem!_pos (d[j / 8].cells) (j % 8) hl]
theorem sort_own {w : World} {base : Nat} {v : Value} {d : List Spn} (h : w.ownsRow base 37 8 v d.length (cellsS d)) (hl : d.length < 4611686018427387904) :
    Calls Try.prog 30 #[v, .func (.func 31) #[] #[]] w fun e w' => e = .returned (.tuple #[]) ∧ Kept (fun k => v.ownBlock = some k) w w' ∧ ∃ d' : List Spn, d'.Perm d ∧ SortedS d' ∧ ReadsS w' v d' := by
  have hcells := h
  obtain ⟨hlen, h2⟩ := h
  cases d with
  | nil =>
    have hv : ∃ p c, v = .slice p 0 c := by
      rcases h2 with ⟨rfl, _⟩ | ⟨g, cap, cur, rfl, _⟩
      · exact ⟨none, 0, rfl⟩
      · exact ⟨_, cap, rfl⟩
    obtain ⟨p, c, rfl⟩ := hv
    have hc := AnyF.slices_SortFunc_none (P := Try.prog) Try.sortSp p c (.func (.func 31) #[] #[]) w
    change Calls Try.prog 30 _ _ _ at hc
    exact hc.mono fun e w' ⟨he, hw⟩ => by
      subst hw
      exact ⟨he, Kept.refl _ _, [], List.Perm.refl _, List.Pairwise.nil, p, c, rfl, .inl rfl⟩
  | cons m t =>
    rcases h2 with ⟨_, h0⟩ | ⟨g, cap, cur, rfl, hb, hg, hcap, hmax, hcur, htake⟩
    · simp at h0
    · have hcell := fun j u hu => hcells.cells (g := g) rfl j u hu
      have hblk : g < w.heap.size := (Array.getElem?_eq_some_iff.1 hg).1
      have hH : HoldsK Spn.cells 8 w g 0 (m :: t).toArray := by
        intro j hj
        have hj' : j < (m :: t).length * 8 := by simpa [size_flatK] using hj
        refine ⟨?_, ?_⟩
        · have := hcell j _ (flat_at (m :: t) j hj')
          rw [add_mid] at this
          exact this
        · unfold World.frozen?
          simp [hg]
      have hs8 : (m :: t).toArray.size = (m :: t).length := by simp
      have hc := AnyQ.slices_SortFunc (P := Try.prog) Try.sortSp 8 agg37 size37 Spn.cells (fun _ => rfl) (fun x u hu => by simp [Spn.cells] at hu; rcases hu with rfl | rfl | rfl | rfl | rfl | rfl | rfl | rfl <;> rfl) cmpS swoS 31 #[] g 0 cap (m :: t).toArray w (enters_of Try.func31 (by kernel_rfl) rfl) (fun _ _ _ _ x y => closure_all x y _) hH hblk (by rw [hs8]; exact hl)
      change Calls Try.prog 30 _ _ _ at hc
      rw [hs8] at hc
      exact hc.mono fun e w' ⟨he, d', n, os, hp, hsd, hw⟩ => by
        have hsz : d'.size = (m :: t).toArray.size := hp.1
        have hlt : (sortWorldK Spn.cells 8 w g 0 n d' os).heap.size ≥ w.heap.size := by
          unfold sortWorldK; rw [size_grow]; unfold putRowK; rw [size_putRow]; exact Nat.le_add_right _ _
        have hho := holdsK_sortWorldK Spn.cells 8 w g 0 n (m :: t).toArray d' os hblk hH hsz
        subst hw
        refine ⟨he, ⟨rfl, rfl, rfl, hlt, fun k hk hne => ?_⟩, d'.toList, ?_, ?_, ?_⟩
        · have hkg : g ≠ k := fun e => hne (by rw [← e]; rfl)
          unfold sortWorldK grow
          simp only
          rw [Array.getElem?_append_left (by unfold putRowK; rw [size_putRow]; exact hk)]
          unfold putRowK putRow mapBlock
          simp only
          rw [Array.getElem?_modify]
          simp only [hkg, if_false]
          rfl
        · have := perm_of_in (d := (m :: t).toArray) (by rw [hs8]; exact hp)
          simpa using this
        · exact sorted_of_in (by rw [hsz, hs8]; exact hsd)
        · refine ⟨some ⟨g, 0, none⟩, cap, by simp [hsz], .inr ⟨g, 0, rfl, fun j u hu => ?_⟩⟩
          have hj : j < d'.toList.length * 8 := by rw [← cellsS_length]; exact (List.getElem?_eq_some_iff.1 hu).1
          have h3 := flat_at d'.toList j hj
          rw [hu] at h3
          have h4 := (hho j (by rw [size_flatK]; simpa using hj)).1
          rw [h4]
          simp at h3
          simp [h3]
end Go.Proofs.Ytibakmchgppndaa
