/- A region that draws its order, inside a round of a range over a function: as outside of one, where it neither defers nor outgrows. -/
import Derived.Test.YtfhpjopdndnmgaaAll
namespace Go.Proofs.Ytfhpjopdndnmgaa
open Go.RowKit

def Oper.calm (o : Oper) : Bool := match o.op with
  | .defer _ => false
  | _ => true
theorem calm_ne {o : Oper} (h : Oper.calm o = true) : ∀ c, o.op ≠ .defer c := by
  intro c e; unfold Oper.calm at h; rw [e] at h; cases h

theorem wp_in_round {P : Program} {o : Oper} {a : Act} {w : World} {K : Act → World → Prop} {Q : Exit → Act → World → Prop} (l n : Nat) (hc : Oper.calm o = true) (h : o.wp P a w K Q) : o.wpIn (Fence.wide.inRound l) n P a w K Q := by
  unfold Oper.wpIn
  refine ⟨fun _ _ => trivial, ?_⟩
  rw [Oper.semAt_plain _ _ _ (calm_ne hc)]
  unfold Oper.wp at h
  generalize (execOp a.eval o).run P w = r at h
  cases r with
  | ok x w' =>
    cases x with
    | value v => exact h
    | skip => exact h
    | defer d => exact h
    | enter f args => exact ⟨fun hh => (by cases hh), callsIn_wide.2 h⟩
    | row row args =>
      refine ⟨fun hh => (by cases hh), fun c cs _ => ?_⟩
      obtain ⟨v, w2, hR, hs⟩ := h c cs
      exact ⟨v, w2, hR, stepsIn_wide.2 hs⟩
    | _ => exact h.elim
  | halt hh w' =>
    cases hh with
    | panic v => exact h
    | _ => exact h.elim

theorem anyH_in_round {P : Program} {md : Region.Mode} {ops : Array Oper} {Q : Exit → Act → World → Prop} {S : World → Prop} (l n : Nat) (hc : ops.all Oper.calm = true) (hQ : ¬ LetsOut Q) : ∀ (fuel : Nat) (listed : Array Bool) (a : Act) (w : World),
    wpAnyH P md ops Q S fuel listed a w → wpAnyIn (Fence.wide.inRound l) n P md ops Q fuel listed a w
  | 0, _, _, _, h => h
  | fuel + 1, listed, a, w, h => by
    refine ⟨h.1, fun i hi => ?_⟩
    have h2 := h.2 i hi
    unfold wpOp at h2
    unfold wpOpIn
    cases ho : ops[i]? with
    | none => rw [ho] at h2; exact anyH_in_round l n hc hQ fuel _ _ _ h2.2
    | some o =>
      rw [ho] at h2
      have hco : Oper.calm o = true := by
        have hm : o ∈ ops := Array.mem_of_getElem? ho
        exact Array.all_eq_true_iff_forall_mem.1 hc o hm
      simp only at h2 ⊢
      split
      · rename_i hw
        rw [if_pos hw] at h2
        rcases h2 with h2 | h2
        · exact wp_in_round l n hco (Oper.wp_mono (fun a' w' h3 => anyH_in_round l n hc hQ fuel _ _ _ h3.2) h2)
        · exact absurd h2.2 hQ
      · rename_i hw
        rw [if_neg hw] at h2
        exact ⟨fun _ _ => trivial, anyH_in_round l n hc hQ fuel _ _ _ h2.2⟩

theorem round_region {P : Program} {id : Nat} {ops : Array Oper} {Q : Exit → Act → World → Prop} {S : World → Prop} {a : Act} {w : World} (l n : Nat) (hm : P.follows .mixedOrders = true) (hc : ops.all Oper.calm = true) (hQ : ¬ LetsOut Q)
    (hS : S w.drew) (h : S w.drew → wpAnyH P .any ops Q S ops.size (Array.replicate ops.size false) a w.drew) : (Code.region id ops true).wpIn (Fence.wide.inRound l) n P Q a w :=
  wpIn_region_any hm (anyH_in_round l n hc hQ _ _ _ _ (h hS))
end Go.Proofs.Ytfhpjopdndnmgaa
