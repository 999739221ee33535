/- MergesAll, walked whole: at every input it returns true. -/
import Derived.Test.YtfhpjopdndnmgaaRefNew
namespace Go.Proofs.Ytfhpjopdndnmgaa
open Go.RowKit

theorem twins_read {W : World} {base : Nat} {v : Value} {L : List (List Cel)} {us : List Value} (ho : W.ownsRow base 25 1 v L.length us) (hT : TwinsAt W base L us) : ReadsR W v L := by
  rcases row_form ho with ⟨rfl, hn⟩ | ⟨g, c, rfl, _, _, _, h4⟩
  · exact ⟨none, 0, by rw [hn], .inl (List.eq_nil_of_length_eq_zero hn)⟩
  · refine ⟨_, c, rfl, .inr ⟨g, 0, rfl, fun k R hk => ?_⟩⟩
    obtain ⟨u, h1, h2⟩ := hT.2 k R hk
    exact ⟨u, by rw [Nat.zero_add]; exact h4 k u h1, h2.reads⟩
theorem TwinsAt.keptF {W W' : World} {base : Nat} {L : List (List Cel)} {us : List Value} (hT : TwinsAt W base L us) (hK : Kept (fun _ => False) W W') : TwinsAt W' base L us :=
  ⟨hT.1, fun i R hi => by obtain ⟨u, h1, h2⟩ := hT.2 i R hi; exact ⟨u, h1, h2.kept hK (fun _ _ f => f)⟩⟩
theorem reads_nilC (w : World) : ReadsC w (.slice none 0 0) [] := ⟨none, 0, rfl, .inl rfl⟩
theorem merge_le (L : List (List Cel)) : (mergeL L).length ≤ total L := mergeF_length _ _

set_option maxRecDepth 100000 in
set_option maxHeartbeats 8000000 in
theorem mergesAll_any (w : World) (v0 : Value) (L : List (List Cel)) (h : ReadsR w v0 L) (hlen : L.length ≤ 9223372036854775807) (hfit : ∀ R ∈ L, R.length ≤ 9223372036854775807 ∧ ∀ c ∈ R, c.k.size ≤ 9223372036854775807 ∧ c.v.size ≤ 9223372036854775807) :
    Calls Try.prog 3 #[v0] w fun e w' => e = .returned (.bool true) ∧ Below w.heap.size w w' := by
  have GA := Lib.hid (great_any w v0 L h hlen hfit)
  have H := Lib.hid h
  clear h hlen hfit
  have hor : greatB L = true ∨ greatB L = false := by cases greatB L <;> simp
  rcases hor with hg | hg
  · have G := Lib.hid hg; clear hg
    go_enter Try.func3, Try.ntmps3
    go_wp2_with (go_at_call 9; refine GA.out.mono ?_; rw [G.out]; rintro e w1 ⟨rfl, rfl⟩)
    go_ret
    exact ⟨rfl, Below.refl _ _⟩
  · have hf := greatB_false.1 hg
    have hL : L.length ≤ 50 := by have := hf.2.1; omega
    have hR : ∀ R ∈ L, R.length ≤ 1000 := fun R hr => by have := (hf.1 R hr).1; omega
    have ht : total L ≤ 1000 := by have := hf.2.2; omega
    have G := Lib.hid hg; have LR := Lib.hid hR; have LT := Lib.hid ht; have LL := Lib.hid hL
    clear hg hf hR ht
    go_enter Try.func3, Try.ntmps3
    go_wp2_with fail
    refine GA.out.mono ?_
    rw [G.out]; rintro e w0 ⟨rfl, rfl⟩
    go_wp2_with fail
    refine (twins_any w v0 L H.out LL.out LR.out).mono ?_
    rintro e w1 ⟨vt, us, rfl, ot, tt, k1⟩
    have OT1 := Lib.hid ot; have TT1 := Lib.hid tt; have K1 := Lib.hid k1
    clear ot tt k1
    go_wp2_with fail
    refine (all_any w1 vt L (twins_read OT1.out TT1.out) LL.out LR.out LT.out).mono ?_
    rintro e w2 ⟨k2, h2⟩
    have K2 := Lib.hid (keptFF K1.out k2); have KA := Lib.hid k2
    have hcase : (L.all sortedB = false ∧ e = .returned (.tuple #[.slice none 0 0, .int .i64 2])) ∨ (L.all sortedB = true ∧ ∃ u, e = .returned (.tuple #[u, .int .i64 0]) ∧ ReadsC w2 u (mergeL L)) := by
      rcases h2 with h2 | ⟨h2, u, h3, h4⟩
      · exact .inl h2
      · exact .inr ⟨h2, u, h3, ReadsC.of_row h4⟩
    clear h2 k2
    have OT2 := Lib.hid (own_keptS OT1.out KA.out (fun _ _ f => f)); have TT2 := Lib.hid (TT1.out.keptF KA.out)
    rcases hcase with ⟨ha, rfl⟩ | ⟨ha, u2, rfl, r2⟩
    · have HA := Lib.hid ha; clear ha
      go_wp2_with fail
      refine (rall_any w2 v0 L (H.out.keptF K2.out) LL.out LR.out LT.out).mono ?_
      rintro e w3 ⟨k3, h3⟩
      have K3 := Lib.hid (keptFF K2.out k3)
      have OT3 := Lib.hid (own_keptS OT2.out k3 (fun _ _ f => f)); have TT3 := Lib.hid (TT2.out.keptF k3)
      have he3 : e = .returned (.tuple #[.slice none 0 0, .int .i64 2]) := by
        rcases h3 with ⟨_, h3⟩ | ⟨h3, _⟩
        · exact h3
        · rw [HA.out] at h3; cases h3
      subst he3
      clear h3 k3
      go_wp2_with fail
      refine (newest_any w3 vt L (twins_read OT3.out TT3.out) LL.out LR.out LT.out).mono ?_
      rintro e w4 ⟨k4, h4⟩
      have K4 := Lib.hid (keptFF K3.out k4)
      have OT4 := Lib.hid (own_keptS OT3.out k4 (fun _ _ f => f)); have TT4 := Lib.hid (TT3.out.keptF k4)
      have he4 : e = .returned (.tuple #[.slice none 0 0, .int .i64 2]) := by
        rcases h4 with ⟨_, h4⟩ | ⟨h4, _⟩
        · exact h4
        · rw [HA.out] at h4; cases h4
      subst he4
      clear h4 k4
      go_wp2_with fail
      refine (rnewest_any w4 v0 L (H.out.keptF K4.out) LL.out LR.out LT.out).mono ?_
      rintro e w5 ⟨k5, h5⟩
      have K5 := Lib.hid (keptFF K4.out k5)
      have OT5 := Lib.hid (own_keptS OT4.out k5 (fun _ _ f => f)); have TT5 := Lib.hid (TT4.out.keptF k5)
      have he5 : e = .returned (.tuple #[.slice none 0 0, .int .i64 2]) := by
        rcases h5 with ⟨_, h5⟩ | ⟨h5, _⟩
        · exact h5
        · rw [HA.out] at h5; cases h5
      subst he5
      clear h5 k5
      go_wp2_with fail
      refine (same_yes w5 _ _ [] (reads_nilC _) (reads_nilC _) (by simp)).mono ?_
      rintro e w6 ⟨rfl, k6⟩
      have K6 := Lib.hid k6; clear k6
      go_wp2_with fail
      refine (same_yes w6 _ _ [] (reads_nilC _) (reads_nilC _) (by simp)).mono ?_
      rintro e w7 ⟨rfl, k7⟩
      have K7 := Lib.hid (keptFF K6.out k7); clear k7
      go_wp2_with fail
      refine (left_any w7 _ vt v0 us L (own_keptS OT5.out K7.out (fun _ _ f => f)) (TT5.out.keptF K7.out) ((H.out.keptF K5.out).keptF K7.out) LL.out LR.out).mono ?_
      rintro e w8 ⟨rfl, k8⟩
      have K8 := Lib.hid (keptFF K7.out k8); clear k8
      go_wp2_with fail
      refine (does_any w8).mono ?_
      rintro e w9 ⟨rfl, k9⟩
      have K9 := Lib.hid (keptFF (keptFF K5.out K8.out) k9); clear k9
      go_wp2
      go_ret
      exact ⟨rfl, K9.out.below (fun _ _ f => f)⟩
    · have HA := Lib.hid ha; have R2 := Lib.hid r2; clear ha r2
      go_wp2_with fail
      refine (rall_any w2 v0 L (H.out.keptF K2.out) LL.out LR.out LT.out).mono ?_
      rintro e w3 ⟨k3, ⟨h3, _⟩ | ⟨_, u3, rfl, o3⟩⟩
      · rw [HA.out] at h3; cases h3
      have K3 := Lib.hid (keptFF K2.out k3)
      have OT3 := Lib.hid (own_keptS OT2.out k3 (fun _ _ f => f)); have TT3 := Lib.hid (TT2.out.keptF k3)
      have R3a := Lib.hid (R2.out.keptF k3); have R3b := Lib.hid (ReadsC.of_row o3)
      clear k3 o3
      go_wp2_with fail
      refine (newest_any w3 vt L (twins_read OT3.out TT3.out) LL.out LR.out LT.out).mono ?_
      rintro e w4 ⟨k4, ⟨h4, _⟩ | ⟨_, u4, rfl, o4⟩⟩
      · rw [HA.out] at h4; cases h4
      have K4 := Lib.hid (keptFF K3.out k4)
      have OT4 := Lib.hid (own_keptS OT3.out k4 (fun _ _ f => f)); have TT4 := Lib.hid (TT3.out.keptF k4)
      have R4a := Lib.hid (R3a.out.keptF k4); have R4b := Lib.hid (R3b.out.keptF k4); have R4c := Lib.hid (ReadsC.of_row o4)
      clear k4 o4
      go_wp2_with fail
      refine (rnewest_any w4 v0 L (H.out.keptF K4.out) LL.out LR.out LT.out).mono ?_
      rintro e w5 ⟨k5, ⟨h5, _⟩ | ⟨_, u5, rfl, o5⟩⟩
      · rw [HA.out] at h5; cases h5
      have K5 := Lib.hid (keptFF K4.out k5)
      have OT5 := Lib.hid (own_keptS OT4.out k5 (fun _ _ f => f)); have TT5 := Lib.hid (TT4.out.keptF k5)
      have R5a := Lib.hid (R4a.out.keptF k5); have R5b := Lib.hid (R4b.out.keptF k5); have R5c := Lib.hid (R4c.out.keptF k5); have R5d := Lib.hid (ReadsC.of_row o5)
      clear k5 o5
      go_wp2_with fail
      refine (same_yes w5 _ _ _ R5a.out R5b.out (Nat.le_trans (merge_le L) LT.out)).mono ?_
      rintro e w6 ⟨rfl, k6⟩
      have K6 := Lib.hid k6; clear k6
      go_wp2_with fail
      refine (same_yes w6 _ _ _ (R5c.out.keptF K6.out) (R5d.out.keptF K6.out) (Nat.le_trans (firstF_length _) (Nat.le_trans (merge_le L) LT.out))).mono ?_
      rintro e w7 ⟨rfl, k7⟩
      have K7 := Lib.hid (keptFF K6.out k7); clear k7
      go_wp2_with fail
      refine (left_any w7 _ vt v0 us L (own_keptS OT5.out K7.out (fun _ _ f => f)) (TT5.out.keptF K7.out) ((H.out.keptF K5.out).keptF K7.out) LL.out LR.out).mono ?_
      rintro e w8 ⟨rfl, k8⟩
      have K8 := Lib.hid (keptFF K7.out k8); clear k8
      go_wp2_with fail
      refine (does_any w8).mono ?_
      rintro e w9 ⟨rfl, k9⟩
      have K9 := Lib.hid (keptFF (keptFF K5.out K8.out) k9); clear k9
      go_wp2
      go_ret
      exact ⟨rfl, K9.out.below (fun _ _ f => f)⟩
end Go.Proofs.Ytfhpjopdndnmgaa
