/- trees.kept over spans, by their IDs. -/
import Derived.Test.YtjidldbolbjdpaaCntp
import Derived.Lib.AppendZeros
namespace Go.Proofs.Ytjidldbolbjdpaa
open Go.RowKit

theorem cell_new1 (w : World) (u : Value) (t : TypeId) : (w.alloc (.cells #[u] t)).cell? ⟨w.heap.size, 0, none⟩ = some u := by
  simp
theorem run_append_zero {P : Program} (w : World) (t ty e : TypeId) (i : TypeInfo) (ht : P.underlying t = some (.slice e)) (hi : P.info? e = some i) (b xa : Option Addr) (n c c' : Nat) (hnc : n ≤ c) :
    (Builtin.append_ #[t, t] ty #[.slice b n c, .slice xa 0 c']).run P w = .ok (.slice b n c) w := by
  cases b <;> cases xa <;> simp [Builtin.append_, underlying, sizeOf, typeInfo, ht, hi, Builtin.lenOf, hnc, Builtin.firstCells, storeCells, go_sem]
set_option maxHeartbeats 2000000 in
theorem clone_empty (w : World) (ao : Option Addr) (cap : Nat) :
    Calls Try.prog 40 #[.slice ao 0 cap] w fun e w' => ∃ ao' c, e = .returned (.slice ao' 0 c) ∧ Kept (fun _ => False) w w' := by
  obtain ⟨i0, hi, hz0, hz1, hz2⟩ := info_parts inf24
  have q25 : ∀ (w : World) (a : Option Addr) (n c n' c' : Nat), (binOp .eql 22 (.slice a n c) (.slice none n' c')).run Try.prog w = .ok (.bool a.isNone) w := fun w a n c n' c' => Lib.run_eql_slice_nil w _ _ a n c n' c' Try.underlying22
  cases ao with
  | none =>
    go_enter Try.func40, Try.ntmps40
    go_wp2
    go_ret
    exact ⟨_, _, rfl, Kept.refl _ _⟩
  | some a =>
    have HR := Lib.hid (fun (w : World) ty b => run_append_zero (P := Try.prog) w 22 ty 24 i0 Try.underlying22 hi b (some a) 0 0 cap (Nat.le_refl _))
    go_enter Try.func40, Try.ntmps40
    go_wp2_with (at_builtin; refine Lib.wpList_append_run _ rfl _ _ _ _ rfl _ _ rfl rfl _ _ (HR.out _ _ _) ?_)
    go_ret
    exact ⟨_, _, rfl, (Kept.refl (fun _ => False) w).alloc _⟩
set_option maxHeartbeats 2000000 in
theorem insert_empty (w : World) (ao : Option Addr) (cap : Nat) (f : Value) : Calls Try.prog 51 #[.slice ao 0 cap, .int .i64 0, .int .i64 0, f] w fun e w' => e = .returned (.tuple #[]) ∧ w = w' := by
  go_enter Try.func51, Try.ntmps51
  go_wp2
  go_loopg [8] 1 (fun gh t wr => t = .int .i64 1 ∧ w = wr)
  case atStart => exact ⟨by go_num, rfl⟩
  case round =>
    obtain ⟨rfl, rfl⟩ := hrel
    go_wp2
    go_end0
    exact ⟨rfl, rfl⟩
set_option maxHeartbeats 2000000 in
theorem stable_empty (w : World) (ao : Option Addr) (cap : Nat) (f : Value) : Calls Try.prog 49 #[.slice ao 0 cap, .int .i64 0, f] w fun e w' => e = .returned (.tuple #[]) ∧ w = w' := by
  go_enter Try.func49, Try.ntmps49
  go_wp2
  go_loopg [7, 8] 1 (fun gh s t wr => s = .int .i64 0 ∧ t = .int .i64 20 ∧ w = wr)
  case atStart => exact ⟨by go_num, by go_num, rfl⟩
  case round =>
    obtain ⟨rfl, rfl, rfl⟩ := hrel
    go_wp2_with fail
    refine (insert_empty w ao cap f).mono ?_
    rintro e w5 ⟨rfl, rfl⟩
    go_wp2
    go_loopg [6, 7, 8, 9] 1 (fun gh r _ _ _ wr => r = .int .i64 20 ∧ w = wr)
    case atStart => exact ⟨by go_num, rfl⟩
    case round =>
      obtain ⟨rfl, rfl⟩ := hrel
      go_wp2
      go_end0
      exact ⟨rfl, rfl⟩
set_option maxHeartbeats 2000000 in
theorem sort_empty (w : World) (ao : Option Addr) (cap : Nat) (f : Value) : Calls Try.prog 41 #[.slice ao 0 cap, f] w fun e w' => e = .returned (.tuple #[]) ∧ w = w' := by
  go_enter Try.func41, Try.ntmps41
  go_wp2_with fail
  refine (stable_empty w ao cap f).mono ?_
  rintro e w5 ⟨rfl, rfl⟩
  go_wp2
  go_end0
  exact ⟨rfl, rfl⟩
set_option maxHeartbeats 2000000 in
theorem compact_empty (w : World) (ao : Option Addr) (cap : Nat) (f : Value) : Calls Try.prog 44 #[.slice ao 0 cap, f] w fun e w' => e = .returned (.slice ao 0 cap) ∧ w = w' := by
  go_enter Try.func44, Try.ntmps44
  go_wp2
  go_ret
  exact ⟨rfl, rfl⟩

/-- As it lies, in blocks from b on. -/
def ReadsSb (b : Nat) (w : World) (v : Value) (L : List Spn) : Prop :=
  ∃ ao cap, v = .slice ao L.length cap ∧ (L = [] ∨ ∃ g o, ao = some ⟨g, o, none⟩ ∧ b ≤ g ∧ ∀ j u, (cellsS L)[j]? = some u → w.cell? ⟨g, o + j, none⟩ = some u)
theorem ReadsSb.plain {b : Nat} {w : World} {v : Value} {L : List Spn} (h : ReadsSb b w v L) : ReadsS w v L := by
  obtain ⟨ao, cap, e, h⟩ := h
  exact ⟨ao, cap, e, h.imp id (fun ⟨g, o, e, _, c⟩ => ⟨g, o, e, c⟩)⟩
theorem ReadsSb.keptT {b : Nat} {T : Nat → Prop} {w w' : World} {v : Value} {L : List Spn} (h : ReadsSb b w v L) (K : Kept T w w') (hT : ∀ k, T k → k < b) : ReadsSb b w' v L := by
  obtain ⟨ao, cap, e, h⟩ := h
  exact ⟨ao, cap, e, h.imp id (fun ⟨g, o, e, hb, c⟩ => ⟨g, o, e, hb, fun j u hu => K.cell (c j u hu) (fun t => by have := hT _ t; simp only at this; omega)⟩)⟩
set_option maxHeartbeats 4000000 in
theorem kept_any (w : World) (v : Value) (L : List Spn) (h : ReadsS w v L) (hl : L.length ≤ 1000) :
    Calls Try.prog 32 #[v, .func (.func 33) #[] #[]] w fun e w' => ∃ v', e = .returned v' ∧ ReadsSb w.heap.size w' v' (cntF L) ∧ Kept (fun _ => False) w w' := by
  by_cases hne : L = []
  · subst hne
    obtain ⟨ao, cap, rfl, _⟩ := h
    go_enter Try.func32, Try.ntmps32
    go_wp2_with fail
    refine (clone_empty _ ao cap).mono ?_
    rintro e w5 ⟨ao', c, rfl, k5⟩
    have K5 := Lib.hid (((Kept.refl (fun _ => False) w).alloc _).trans k5 (fun _ _ f => f) (fun _ _ f => f) : Kept (fun _ => False) w w5)
    clear k5
    go_wp2_with fail
    refine (sort_empty w5 ao' c _).mono ?_
    rintro e w6 ⟨rfl, rfl⟩
    go_wp2_with fail
    refine (compact_empty w5 ao' c _).mono ?_
    rintro e w6 ⟨rfl, rfl⟩
    go_wp2
    go_ret
    exact ⟨_, rfl, ⟨ao', c, rfl, .inl rfl⟩, K5.out⟩
  · have hpos : 0 < L.length := List.length_pos_iff.2 hne
    have HR := Lib.hid h
    clear h hne
    obtain ⟨bk, hbk⟩ : ∃ n, w.heap.size = n := ⟨_, rfl⟩
    obtain ⟨W1, hW1⟩ : ∃ W, w.alloc (.cells #[.func (.func 33) #[] #[]] 63) = W := ⟨_, rfl⟩
    have K1 := Lib.hid (show Kept (fun _ => False) w W1 by rw [← hW1]; exact (Kept.refl _ w).alloc _)
    have C1 := Lib.hid (show W1.cell? ⟨bk, 0, none⟩ = some (.func (.func 33) #[] #[]) by rw [← hW1, ← hbk]; exact cell_new1 _ _ _)
    have S1 := Lib.hid (show bk < W1.heap.size by rw [← hW1, ← hbk]; simp)
    go_enter Try.func32, Try.ntmps32
    go_wp2_with fail
    clear hW1 hbk
    refine (clone_any W1 v L (HR.out.keptF K1.out) hl hpos).mono ?_
    rintro e w5 ⟨v5, rfl, o5, k5⟩
    rcases row_form o5 with ⟨_, h0⟩ | ⟨g, cap, rfl, hcap, hg1, hg2, _⟩
    · exact absurd h0 (by omega)
    have O5 := Lib.hid o5
    have K5 := Lib.hid k5
    have HN := Lib.hid (show bk ≠ g by have := S1.out; omega)
    have HG := Lib.hid hg1
    have HCP := Lib.hid hcap
    clear o5 k5 hg1 hg2 hcap
    go_wp2_with fail
    refine (sort_any O5.out rfl hl (K5.out.cell C1.out (fun f => f)) HN.out).mono ?_
    rintro e w6 ⟨rfl, L6, o6, m6, s6, k6⟩
    have O6 := Lib.hid o6; have M6 := Lib.hid m6; have S6 := Lib.hid s6; have K6 := Lib.hid k6
    clear o6 m6 s6 k6
    go_wp2_with fail
    refine (compact_any O6.out M6.out.len hl HCP.out (K6.out.cell (K5.out.cell C1.out (fun f => f)) HN.out) HN.out).mono ?_
    rintro e w7 ⟨c, rfl, r7, k7⟩
    rw [kept_plain M6.out S6.out] at r7 ⊢
    have R7 := Lib.hid r7; have K7 := Lib.hid k7
    clear r7 k7
    go_wp2
    go_ret
    refine ⟨_, rfl, ?_, ?_⟩
    · obtain ⟨a7, c7, e7, h7⟩ := R7.out
      refine ⟨a7, c7, e7, h7.imp id (fun ⟨g7, o7, e8, c8⟩ => ⟨g7, o7, e8, ?_, c8⟩)⟩
      subst e8
      cases e7
      have h8 := K1.out.size
      have h9 := HG.out
      omega
    have h1 := K1.out.trans K5.out (fun _ _ f => f) (fun _ _ f => f) (T := fun _ => False)
    have h2 := K6.out.trans K7.out (fun _ _ h => h) (fun _ _ h => h) (T := fun k => k = g)
    have hsz := K1.out.size
    exact h1.trans h2 (fun _ _ f => f) (fun i hi e => by have := HG.out; omega)
end Go.Proofs.Ytjidldbolbjdpaa
