/- The document's merge, walked. -/
import Derived.Test.YtfhpjopdndnmgaaTwins
import Derived.Deep.OwnRows
namespace Go.Proofs.Ytfhpjopdndnmgaa
open Go.RowKit

set_option maxHeartbeats 2000000 in
theorem may_rows (w : World) (v0 : Value) (L : List (List Cel)) (h : ReadsR w v0 L) (hL : L.length ≤ 50) (hl : ∀ R ∈ L, R.length ≤ 1000) :
    Calls Try.prog 26 #[v0] w fun e w' => e = .returned (.bool (L.all sortedB)) ∧ Kept (fun _ => False) w w' := by
  obtain ⟨ao, cap, rfl, h⟩ := h
  have HR := Lib.hid h; have HL := Lib.hid hl; clear h hl
  go_enter Try.func26, Try.ntmps26
  go_wp2
  go_loopg [3] L.length (fun g t wr => ∃ k : Nat, k + g = L.length ∧ t = .int .i64 k ∧ Kept (fun _ => False) w wr ∧ (L.take k).all sortedB = true)
  case atStart => exact ⟨0, by omega, rfl, Kept.refl _ _, by simp⟩
  case round =>
    obtain ⟨k, hk, rfl, KW, hall⟩ := hrel
    have hk1 : k ≤ L.length := by omega
    have J := Lib.hid hk; have KF := Lib.hid KW; have AL := Lib.hid hall
    clear hk KW hall
    by_cases hlt : k < L.length
    · rcases HR.out with h0 | ⟨g, o, rfl, hc⟩
      · rw [h0] at hlt; simp at hlt
      obtain ⟨R, hR⟩ : ∃ R, L[k]? = some R := ⟨_, List.getElem?_eq_getElem hlt⟩
      obtain ⟨u, hu, hru⟩ := hc k R hR
      have hu2 := KF.out.cell hu (fun f => f)
      have SO := Lib.hid (rsorted_any wr u R (hru.keptF KF.out) (HL.out R (List.mem_of_getElem? hR)))
      have htk : L.take (k + 1) = L.take k ++ [R] := by rw [List.take_add_one, hR]; rfl
      have TK := Lib.hid htk; have RG := Lib.hid hR
      have i1 : (0 : Int) ≤ (k : Int) := by omega
      have i2 : (k : Int) < (L.length : Int) := by omega
      clear hc hu hru hR htk
      have hor : sortedB R = true ∨ sortedB R = false := by cases sortedB R <;> simp
      rcases hor with hs | hs
      · have HS := Lib.hid hs; clear hs
        go_wp2_with (go_at_call 36; refine SO.out.mono ?_; rw [HS.out]; rintro e w4 ⟨rfl, k4⟩; (have K4 := Lib.hid k4); clear k4)
        go_roundg (gk - 1)
        case measure => have := J.out; omega
        case rel => exact ⟨k + 1, by have := J.out; omega, by go_num, KF.out.trans K4.out (fun _ _ f => f) (fun _ _ f => f), by rw [TK.out, List.all_append, AL.out]; simp [HS.out]⟩
      · have HS := Lib.hid hs; clear hs
        go_wp2_with (go_at_call 36; refine SO.out.mono ?_; rw [HS.out]; rintro e w4 ⟨rfl, k4⟩; (have K4 := Lib.hid k4); clear k4)
        go_ret
        refine ⟨ret_bool ?_, KF.out.trans K4.out (fun _ _ f => f) (fun _ _ f => f)⟩
        cases ha : L.all sortedB with
        | false => rfl
        | true =>
          have := List.all_eq_true.1 ha R (List.mem_of_getElem? RG.out)
          rw [HS.out] at this; cases this
    · have hk2 : k = L.length := by omega
      have e3 : ¬ (k : Int) < (L.length : Int) := by omega
      have K2 := Lib.hid hk2; clear hk2
      go_wp2
      go_ret
      exact ⟨ret_bool (by have := AL.out; rw [K2.out, List.take_length] at this; exact this.symm), KF.out⟩
end Go.Proofs.Ytfhpjopdndnmgaa
