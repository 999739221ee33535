/- The tree, computed. -/
import Derived.Test.YtjidldbolbjdpaaCollect
namespace Go.Proofs.Ytjidldbolbjdpaa

def loopB (R : List Spn) (i : Nat) : Nat → Nat → Bool
  | 0, _ => false
  | g + 1, k => if k = i then true else if k < i then false else match pF R k with
    | none => false
    | some k' => loopB R i g k'
def headB (R : List Spn) (i : Nat) : Bool := match pF R i with
  | none => (nth R i).pa != 0
  | some k => loopB R i R.length k
theorem loopB_eq (R : List Spn) {i q : Nat} (hi : i < R.length) (hq : pF R i = some q) : ∀ (g m k : Nat), m + g = R.length → it (pF R) (m + 1) i = some k → (∀ s y, s < m + 1 → 0 < s → it (pF R) s i = some y → i < y) → loopB R i g k = hdF R i := by
  intro g
  induction g with
  | zero =>
    intro m k hm hk hb
    rw [loopB]
    refine (hdF_false hq (fun l => ?_)).symm
    obtain ⟨c, c0, c1, c2⟩ := cyc_short (fun _ _ _ h => pF_lt h) hi l.1
    have := hb c i (by omega) c0 c2
    omega
  | succ g ih =>
    intro m k hm hk hb
    rw [loopB]
    by_cases c : k = i
    · subst c
      rw [if_pos rfl]
      exact ((hdF_least hq).2 (least_of (c := m + 1) (by omega) hk hb)).symm
    · rw [if_neg c]
      by_cases d : k < i
      · rw [if_pos d]
        exact (hdF_false hq (fun l => by have := l.2 _ _ hk; omega)).symm
      · rw [if_neg d]
        cases hp : pF R k with
        | none =>
          refine (hdF_false hq (fun l => ?_)).symm
          obtain ⟨y, hy⟩ := cyc_some l.1 (m + 2)
          rw [it, hk] at hy
          simp [hp] at hy
        | some k' =>
          refine ih (m + 1) k' (by omega) (by rw [it, hk]; exact hp) (fun s y h1 h2 hy => ?_)
          by_cases e : s = m + 1
          · subst e; rw [hk] at hy; cases hy; omega
          · exact hb s y (by omega) h2 hy
theorem headB_eq (R : List Spn) {i : Nat} (hi : i < R.length) : headB R i = hdF R i := by
  unfold headB
  cases hp : pF R i with
  | none => exact (hdF_none hp).symm
  | some q => exact loopB_eq R hi hp R.length 0 q (by omega) (by simp [it, hp]) (fun s y h1 h2 => by omega)
def kidB (R : List Spn) (x : Nat) : List Nat := (List.range R.length).filter (fun k => pF R k == some x && !headB R k)
def subB (R : List Spn) : Nat → Nat → Fr
  | 0, _ => .nil
  | d + 1, i => forF (subB R d) R (kidB R i)
def rootsB (R : List Spn) : Fr := forF (subB R (R.length + 1)) R ((List.range R.length).filter (fun k => !headB R k && (nth R k).pa == 0))
def orphB (R : List Spn) : Fr := forF (subB R (R.length + 1)) R ((List.range R.length).filter (fun k => headB R k))
theorem kidB_eq (R : List Spn) (x : Nat) : kidF R R.length x = kidB R x := by
  unfold kidF kidB
  refine List.filter_congr (fun k hk => ?_)
  rw [headB_eq R (List.mem_range.1 hk), Bool.eq_iff_iff]
  simp
theorem subB_eq (R : List Spn) : ∀ d, subF R d = subB R d
  | 0 => rfl
  | d + 1 => by funext i; rw [subF, subB, subB_eq R d, kidB_eq]
theorem rootsB_eq (R : List Spn) : rootsF R = rootsB R := by
  unfold rootsF rootsB rootsL
  rw [subB_eq]
  congr 1
  exact List.filter_congr (fun k hk => by rw [headB_eq R (List.mem_range.1 hk)])
theorem orphB_eq (R : List Spn) : orphF R = orphB R := by
  unfold orphF orphB orphL
  rw [subB_eq]
  congr 1
  exact List.filter_congr (fun k hk => by rw [headB_eq R (List.mem_range.1 hk)])
def someS (id pa : Int) : Spn := ⟨1, id, pa, ⟨#[]⟩, ⟨#[]⟩, 0, 0, ⟨#[]⟩⟩
def La : List Spn := [someS 1 0, someS 3 1, someS 2 1, someS 4 2]
def Lb : List Spn := [someS 5 9, someS 6 5, someS 1 0, someS 7 8, someS 8 7]
def Lc : List Spn := [someS 2 2, someS 3 2, someS 2 0]
def Xa : Fr := .cons (someS 1 0) (.cons (someS 2 1) (.cons (someS 4 2) .nil .nil) (.cons (someS 3 1) .nil .nil)) .nil
def Yr : Fr := .cons (someS 1 0) .nil .nil
def Yo : Fr := .cons (someS 5 9) (.cons (someS 6 5) .nil .nil) (.cons (someS 7 8) (.cons (someS 8 7) .nil .nil) .nil)
def Zo : Fr := .cons (someS 2 2) (.cons (someS 3 2) .nil .nil) .nil
theorem treeA : rootsF (cntF La) = Xa ∧ orphF (cntF La) = .nil := by rw [rootsB_eq, orphB_eq]; exact ⟨by kernel_rfl, by kernel_rfl⟩
theorem treeB : rootsF (cntF Lb) = Yr ∧ orphF (cntF Lb) = Yo := by rw [rootsB_eq, orphB_eq]; exact ⟨by kernel_rfl, by kernel_rfl⟩
theorem treeC : rootsF (cntF Lc) = .nil ∧ orphF (cntF Lc) = Zo := by rw [rootsB_eq, orphB_eq]; exact ⟨by kernel_rfl, by kernel_rfl⟩
end Go.Proofs.Ytjidldbolbjdpaa
