/- Acts in memory; Beyond of acts. -/
import Derived.Test.YtibakmchgppndaaSameA
import Derived.Test.YtibakmchgppndaaLawNone
namespace Go.Proofs.Ytibakmchgppndaa
open Go.RowKit

structure ActP where
  spans : List Spn
  ticks : Int
/-- One act lies at a place: its spans' slice, and its ticks. -/
def ActAt (w : World) (g o : Nat) (a : ActP) : Prop := ∃ sv, w.cell? ⟨g, o + 2, none⟩ = some sv ∧ ReadsS w sv a.spans ∧ w.cell? ⟨g, o + 3, none⟩ = some (.int .u8 a.ticks)
/-- A list of acts, as it lies. -/
def ReadsA (w : World) (v : Value) (A : List ActP) : Prop :=
  ∃ ao cap, v = .slice ao A.length cap ∧ (A = [] ∨ ∃ g o, ao = some ⟨g, o, none⟩ ∧ ∀ i a, A[i]? = some a → ActAt w g (o + i * 4) a)
/-- Acts whose numbers may be. -/
structure FitsA (A : List ActP) : Prop where
  len : A.length ≤ 9223372036854775807
  ticks : ∀ a ∈ A, 0 ≤ a.ticks ∧ a.ticks ≤ 255
  many : ∀ a ∈ A, a.spans.length ≤ 9223372036854775807
  fit : ∀ a ∈ A, ∀ m ∈ a.spans, Fits m
theorem ActAt.keptF {w w' : World} {g o : Nat} {a : ActP} (h : ActAt w g o a) (hK : Kept (fun _ => False) w w') : ActAt w' g o a := by
  obtain ⟨sv, h1, h2, h3⟩ := h
  exact ⟨sv, hK.cell h1 (fun f => f), h2.keptF hK, hK.cell h3 (fun f => f)⟩
theorem ReadsA.keptF {w w' : World} {v : Value} {A : List ActP} (h : ReadsA w v A) (hK : Kept (fun _ => False) w w') : ReadsA w' v A := by
  obtain ⟨ao, cap, rfl, h⟩ := h
  refine ⟨ao, cap, rfl, ?_⟩
  rcases h with h | ⟨g, o, rfl, h⟩
  · exact .inl h
  · exact .inr ⟨g, o, rfl, fun i a ha => (h i a ha).keptF hK⟩
set_option maxRecDepth 100000 in
theorem beyond_len {w : World} {v : Value} {L : List Spn} (h : ReadsS w v L) (hl : L.length ≤ 9223372036854775807) (hfit : ∀ y ∈ L, Fits y) :
    Calls Try.prog 27 #[v, .int .i64 20] w fun e w' => (e = .returned (.bool true) ∨ (e = .returned (.bool false) ∧ L.length ≤ 20)) ∧ w = w' := by
  by_cases h20 : L.length ≤ 20
  · exact (beyond_any h hl hfit).mono fun e w' ⟨⟨r, hr⟩, hw⟩ => ⟨by subst hr; cases r; exact .inr ⟨rfl, h20⟩; exact .inl rfl, hw⟩
  · obtain ⟨ao, cap, rfl, _⟩ := h
    have e1 : (20 : Int) < (L.length : Int) := by omega
    go_enter Try.func27, Try.ntmps27
    go_wp2
    go_ret
    exact ⟨.inl rfl, rfl⟩
set_option maxHeartbeats 4000000 in
set_option maxRecDepth 100000 in
theorem beyondA_all (k : Nat) (hk : k ≤ 1000) {w : World} {v : Value} {A : List ActP} (h : ReadsA w v A) (hf : FitsA A) :
    Calls Try.prog 6 #[v, .int .i64 (k : Int)] w fun e w' => (e = .returned (.bool true) ∨ (e = .returned (.bool false) ∧ (A.length ≤ k ∧ ∀ a ∈ A, a.spans.length ≤ 20))) ∧ w = w' := by
  obtain ⟨ao, cap, rfl, h⟩ := h
  have HR := Lib.hid h
  have HF := Lib.hid hf
  have hl := hf.len
  clear h hf
  by_cases hlen : A.length ≤ k
  · have e1 : ¬ (k : Int) < (A.length : Int) := by omega
    go_enter Try.func6, Try.ntmps6
    go_wp2
    go_loopg [5] A.length (fun gh t wr => ∃ i : Nat, i + gh = A.length ∧ t = .int .i64 i ∧ wr = w ∧ ∀ j a, j < i → A[j]? = some a → a.spans.length ≤ 20)
    case atStart => exact ⟨0, by omega, rfl, rfl, fun j a hj => absurd hj (Nat.not_lt_zero j)⟩
    case round =>
      obtain ⟨i, hi, rfl, rfl, hok⟩ := hrel
      have JI := Lib.hid hi; have OK := Lib.hid hok
      clear hi hok
      by_cases hlt : i < A.length
      · rcases HR.out with h0 | ⟨g, o, rfl, hc⟩
        · rw [h0] at hlt; simp at hlt
        obtain ⟨a, ha⟩ : ∃ a, A[i]? = some a := ⟨_, List.getElem?_eq_getElem hlt⟩
        have hmem := List.mem_of_getElem? ha
        obtain ⟨sv, c2, rs, c3⟩ := hc i a ha
        have B := Lib.hid (beyond_len rs (HF.out.many a hmem) (HF.out.fit a hmem))
        have i1 : (0 : Int) ≤ (i : Int) := by omega
        have i2 : (i : Int) < (A.length : Int) := by omega
        have HA := Lib.hid ha
        clear hc ha hmem rs
        go_wp2_with fail
        refine B.out.mono ?_
        rintro e w2 ⟨rfl | ⟨rfl, hr⟩, rfl⟩
        · go_wp2
          go_ret
          exact ⟨.inl rfl, rfl⟩
        · have R20 := Lib.hid hr
          clear hr
          go_wp2
          go_roundg (A.length - i - 1)
          case measure => have := JI.out; omega
          case rel =>
            refine ⟨i + 1, by omega, by go_num, rfl, fun j x hj hx => ?_⟩
            rcases Nat.lt_or_ge j i with h | h
            · exact OK.out j x h hx
            · obtain rfl : j = i := by omega
              have := HA.out
              rw [hx] at this
              cases this
              exact R20.out
      · have e3 : ¬ (i : Int) < (A.length : Int) := by omega
        go_wp2
        go_ret
        have F : ∀ a ∈ A, a.spans.length ≤ 20 := fun a ha => by
          obtain ⟨j, hj⟩ := List.mem_iff_getElem?.1 ha
          exact OK.out j a (by have := (List.getElem?_eq_some_iff.1 hj).1; omega) hj
        exact ⟨.inr ⟨rfl, F⟩, rfl⟩
  · have e1 : (k : Int) < (A.length : Int) := by omega
    go_enter Try.func6, Try.ntmps6
    go_wp2
    go_ret
    exact ⟨.inl rfl, rfl⟩
end Go.Proofs.Ytibakmchgppndaa
