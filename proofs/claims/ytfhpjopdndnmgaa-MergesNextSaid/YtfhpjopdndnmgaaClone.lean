/- slices.Clone of a row of cells; how rows of rows read. -/
import Derived.Test.YtfhpjopdndnmgaaHpop
import Derived.Lib.Walk
namespace Go.Proofs.Ytfhpjopdndnmgaa
open Go.RowKit

theorem inf36 : (Try.prog.info? 36).map (fun i => (i.zero, i.size, i.bytes)) = some (some (.agg #[.string ⟨#[]⟩, .int .i64 0, .string ⟨#[]⟩]), 3, 40) := by kernel_rfl

set_option maxHeartbeats 2000000 in
theorem clone_any (w : World) (v : Value) (R : List Cel) (h : ReadsC w v R) (hl : R.length ≤ 1000) (hne : 0 < R.length) :
    Calls Try.prog 32 #[v] w fun e w' => ∃ v', e = .returned v' ∧ w'.ownsRow w.heap.size 36 3 v' R.length (cellsC R) ∧ Kept (fun _ => False) w w' := by
  obtain ⟨i0, hi, hz0, hz1, hz2⟩ := info_parts inf36
  obtain ⟨ao, cap, rfl, h⟩ := h
  rcases h with h0 | ⟨g, o, rfl, hc⟩
  · rw [h0] at hne; simp at hne
  have q25 : ∀ (w : World) (a : Option Addr) (n c n' c' : Nat), (binOp .eql 25 (.slice a n c) (.slice none n' c')).run Try.prog w = .ok (.bool a.isNone) w := fun w a n c n' c' => Lib.run_eql_slice_nil w _ _ a n c n' c' Try.underlying25
  have HC := Lib.hid hc; clear hc
  go_enter Try.func32, Try.ntmps32
  go_wp2_with (at_builtin; refine wpList_append_own _ rfl _ _ 25 rfl w.heap.size 36 i0 _ 3 40 Try.underlying25 hi hz0 hz1 hz2 rfl (by decide) _ _ _ rfl (World.ownsRow_made w #[] 0 (Nat.le_refl _) (Nat.zero_le _) rfl) ⟨g, o, none⟩ R.length cap (cellsC R) rfl ?qc1 ?qc2 ?qc3 ?qc4 ?qc5 ?qc6 ?_)
  case qc1 => exact cellsC_length R
  case qc2 =>
    intro j u hj
    rw [add_mid]
    have := HC.out j u hj
    exact (Below.cell ((Below.refl _ w).alloc (Nat.le_refl _) _) (World.block_lt_of_cell? _ _ this)).trans this
  case qc3 => exact cellsC_one R
  case qc4 => unfold maxLen; omega
  case qc5 => omega
  case qc6 => simp
  intro v' w1 hown hgrow hnil
  have HO := Lib.hid hown; have HG := Lib.hid hgrow; clear hown hgrow hnil
  go_wp2
  go_ret
  refine ⟨v', rfl, by simpa using HO.out, ((Kept.refl (fun _ => False) w).alloc _).grown HG.out (fun k hk hlt => ?_)⟩
  simp [Value.ownBlock] at hk; omega

/-- Rows of cells, as they lie. -/
def ReadsR (w : World) (v : Value) (L : List (List Cel)) : Prop :=
  ∃ ao cap, v = .slice ao L.length cap ∧ (L = [] ∨ ∃ g o, ao = some ⟨g, o, none⟩ ∧ ∀ k R, L[k]? = some R → ∃ u, w.cell? ⟨g, o + k, none⟩ = some u ∧ ReadsC w u R)
theorem ReadsC.keptF {w w' : World} {v : Value} {L : List Cel} (h : ReadsC w v L) (hK : Kept (fun _ => False) w w') : ReadsC w' v L := h.kept hK (fun _ _ f => f)
theorem ReadsR.keptF {w w' : World} {v : Value} {L : List (List Cel)} (h : ReadsR w v L) (hK : Kept (fun _ => False) w w') : ReadsR w' v L := by
  obtain ⟨ao, cap, rfl, h⟩ := h
  refine ⟨ao, cap, rfl, ?_⟩
  rcases h with h | ⟨g, o, rfl, hc⟩
  · exact .inl h
  · refine .inr ⟨g, o, rfl, fun k R hk => ?_⟩
    obtain ⟨u, h1, h2⟩ := hc k R hk
    exact ⟨u, hK.cell h1 (fun f => f), h2.keptF hK⟩
end Go.Proofs.Ytfhpjopdndnmgaa
