/- spoorlaw14.TreesFlat. -/
import Derived.Test.YtjidldbolbjdpaaFew
import Derived.Test.YtjidldbolbjdpaaWhole
namespace Go.Proofs.Ytjidldbolbjdpaa
open Go.RowKit

def mark9 : Spn := ⟨0, -9, 0, ⟨#[]⟩, ⟨#[]⟩, 0, 0, ⟨#[]⟩⟩
set_option maxHeartbeats 8000000 in
set_option maxRecDepth 100000 in
theorem treesFlat_any (w : World) (rv ov : Value) (a b : Fr) (ha : ReadsF (fun _ => True) w rv a) (hb : ReadsF (fun _ => True) w ov b) :
    Calls Try.prog 4 #[.agg #[rv, ov]] w fun e w' => e = .returned (.bool true) ∧ Kept (fun _ => False) w w' := by
  obtain ⟨b0, hb0⟩ : ∃ b, w.heap.size = b := ⟨_, rfl⟩
  obtain ⟨S, hS⟩ : ∃ S : Nat → Prop, S = fun k => k < b0 := ⟨_, rfl⟩
  have ra1 : ReadsF S w rv a := ha.keptS (Kept.refl (fun _ => False) w) (fun _ _ _ f => f) (fun k hk _ => by rw [hS]; show k < b0; omega)
  have rb1 : ReadsF S w ov b := hb.keptS (Kept.refl (fun _ => False) w) (fun _ _ _ f => f) (fun k hk _ => by rw [hS]; show k < b0; omega)
  obtain ⟨ra, rc, er, _⟩ := id ra1
  obtain ⟨oa, oc, eo, _⟩ := id rb1
  obtain ⟨rn, hrn⟩ : ∃ x, a.len = x := ⟨_, rfl⟩
  obtain ⟨on, hon⟩ : ∃ x, b.len = x := ⟨_, rfl⟩
  rw [hrn] at er
  rw [hon] at eo
  subst er eo
  obtain ⟨tb, htb⟩ : ∃ b, w.heap.size = b := ⟨_, rfl⟩
  obtain ⟨w1, hw1⟩ : ∃ W, w.alloc (.cells #[.slice ra rn rc, .slice oa on oc] 28) = W := ⟨_, rfl⟩
  have KT := Lib.hid (show Kept (fun _ => False) w w1 from by rw [← hw1]; exact (Kept.refl _ w).alloc _)
  have c0 : w1.cell? ⟨tb, 0, none⟩ = some (.slice ra rn rc) := by rw [← hw1, ← htb]; simp
  have c1 : w1.cell? ⟨tb, 1, none⟩ = some (.slice oa on oc) := by rw [← hw1, ← htb]; simp
  have TB := Lib.hid (show tb < w1.heap.size from by rw [← hw1, ← htb]; simp)
  have C0 := Lib.hid c0; have C1 := Lib.hid c1
  have RA := Lib.hid (ra1.kept KT.out); have RB := Lib.hid (rb1.kept KT.out)
  have HB0 := Lib.hid hb0; have HS := Lib.hid hS
  clear ha hb ra1 rb1 hrn hon hb0 hS
  by_cases hneg : fewF b (fewF a 300) < 0
  · go_enter Try.func4, Try.ntmps4
    go_wp2
    clear hw1 htb
    refine wp_region_held_drew (S := (fun w' => w'.cell? ⟨tb, 0, none⟩ = some (.slice ra rn rc) ∧ w'.cell? ⟨tb, 1, none⟩ = some (.slice oa on oc))) (by kernel_rfl) ?_ (fun hHeld => ?_)
    · exact ⟨c0, c1⟩
    refine wpAnyH_take (i := 0) (v := ?_) opAt0 (by kernel_rfl) (by kernel_rfl) (by kernel_rfl) (fun _ _ _ h => h) (Or.inl ⟨by rfl, ?_⟩) hHeld ?_
    case refine_2 => (intro w hSw; (try dsimp only at hSw); go_simp; all_goals (with_reducible rfl))
    (try simp only [Act.put]); (try simp only [List.setIfInBounds_toArray]); (try simp only [List.set_cons_succ]); (try simp only [List.set_cons_zero])
    refine wpAnyH_take (i := 1) (v := ?_) opAt1 (by kernel_rfl) (by kernel_rfl) (by kernel_rfl) (fun _ _ _ h => h) (Or.inl ⟨by rfl, ?_⟩) hHeld ?_
    case refine_2 => (intro w hSw; (try dsimp only at hSw); go_simp; all_goals (with_reducible rfl))
    (try simp only [Act.put]); (try simp only [List.setIfInBounds_toArray]); (try simp only [List.set_cons_succ]); (try simp only [List.set_cons_zero])
    refine wpAnyH_take (i := 2) (v := ?_) opAt2 (by kernel_rfl) (by kernel_rfl) (by kernel_rfl) (fun _ _ _ h => h) (Or.inl ⟨by rfl, ?_⟩) hHeld ?_
    case refine_2 => (intro w hSw; (try dsimp only at hSw); go_simp; all_goals (with_reducible rfl))
    (try simp only [Act.put]); (try simp only [List.setIfInBounds_toArray]); (try simp only [List.set_cons_succ]); (try simp only [List.set_cons_zero])
    refine wpAnyH_take (i := 3) (v := ?_) opAt3 (by kernel_rfl) (by kernel_rfl) (by kernel_rfl) (fun _ _ _ h => h) (Or.inl ⟨by rfl, ?_⟩) hHeld ?_
    case refine_2 => (intro w hSw; (try dsimp only at hSw); go_simp; all_goals (with_reducible rfl))
    (try simp only [Act.put]); (try simp only [List.setIfInBounds_toArray]); (try simp only [List.set_cons_succ]); (try simp only [List.set_cons_zero])
    refine wpAnyH_ready (rs := [4]) (by kernel_rfl) (by simp) ?_
    refine AllReadyH.cons opAt4 (fun K hK => ?_) AllReadyH.nil
    go_simp
    go_at_call 14; refine (few_any S (a.size + 1) _ _ a 300 (by omega) (by omega) (by omega) (RA.out.kept (Kept.refl _ w1).drew)).mono ?_; rintro e w5 ⟨rfl, k5⟩; have K5 := Lib.hid (keptFF (Kept.refl _ w1).drew k5); dsimp only
    refine hK.out _ _ ?_ (fun hHeld => ?_)
    · exact ⟨k5.cell hHeld.1 (fun f => f), k5.cell hHeld.2 (fun f => f)⟩
    clear hK K
    (try simp only [Act.put]); (try simp only [List.setIfInBounds_toArray]); (try simp only [List.set_cons_succ]); (try simp only [List.set_cons_zero])
    refine wpAnyH_ready (rs := [5]) (by kernel_rfl) (by simp) ?_
    refine AllReadyH.cons opAt5 (fun K hK => ?_) AllReadyH.nil
    go_simp
    go_at_call 14; refine (few_any S (b.size + 1) _ _ b (fewF a 300) (by omega) (fewF_ge a 300 (by omega)) (fewF_le a 300) (RB.out.kept K5.out)).mono ?_; rintro e w6 ⟨rfl, k6⟩; have K6 := Lib.hid (keptFF K5.out k6); dsimp only
    refine hK.out _ _ ?_ (fun hHeld => ?_)
    · exact ⟨k6.cell hHeld.1 (fun f => f), k6.cell hHeld.2 (fun f => f)⟩
    clear hK K
    (try simp only [Act.put]); (try simp only [List.setIfInBounds_toArray]); (try simp only [List.set_cons_succ]); (try simp only [List.set_cons_zero])
    refine wpAnyH_take (i := 6) (v := ?_) opAt6 (by kernel_rfl) (by kernel_rfl) (by kernel_rfl) (fun _ _ _ h => h) (Or.inl ⟨by rfl, ?_⟩) hHeld ?_
    case refine_2 => (intro w hSw; (try dsimp only at hSw); go_simp; all_goals (with_reducible rfl))
    (try simp only [Act.put]); (try simp only [List.setIfInBounds_toArray]); (try simp only [List.set_cons_succ]); (try simp only [List.set_cons_zero])
    refine wpAnyH_done (by kernel_rfl) ?_ _
    go_wp2
    go_ret
    exact ⟨rfl, keptFF KT.out K6.out⟩
  · have SUM := Lib.hid (show a.size + b.size ≤ 300 from by
      have h1 := fewF_size b (fewF a 300) (by omega)
      have h2 := fewF_le b (fewF a 300)
      have h3 := fewF_size a 300 (by omega)
      omega)
    obtain ⟨n, hn⟩ : ∃ n, a.size + b.size = n := ⟨_, rfl⟩
    obtain ⟨F, hF⟩ : ∃ F, a.flat ++ b.flat = F := ⟨_, rfl⟩
    have SZ := Lib.hid hn
    have FN := Lib.hid (show F.length = n from by rw [← hF, List.length_append, size_flat, size_flat, hn])
    have hn300 : n ≤ 300 := by have := SUM.out; omega
    have FL := Lib.hid (show F.length ≤ 1000 from by rw [FN.out]; omega)
    have HFF := Lib.hid hF
    clear hn hF
    go_enter Try.func4, Try.ntmps4
    go_wp2
    clear hw1 htb
    refine wp_region_held_drew (S := (fun w' => w'.cell? ⟨tb, 0, none⟩ = some (.slice ra rn rc) ∧ w'.cell? ⟨tb, 1, none⟩ = some (.slice oa on oc))) (by kernel_rfl) ?_ (fun hHeld => ?_)
    · exact ⟨c0, c1⟩
    refine wpAnyH_take (i := 0) (v := ?_) opAt0 (by kernel_rfl) (by kernel_rfl) (by kernel_rfl) (fun _ _ _ h => h) (Or.inl ⟨by rfl, ?_⟩) hHeld ?_
    case refine_2 => (intro w hSw; (try dsimp only at hSw); go_simp; all_goals (with_reducible rfl))
    (try simp only [Act.put]); (try simp only [List.setIfInBounds_toArray]); (try simp only [List.set_cons_succ]); (try simp only [List.set_cons_zero])
    refine wpAnyH_take (i := 1) (v := ?_) opAt1 (by kernel_rfl) (by kernel_rfl) (by kernel_rfl) (fun _ _ _ h => h) (Or.inl ⟨by rfl, ?_⟩) hHeld ?_
    case refine_2 => (intro w hSw; (try dsimp only at hSw); go_simp; all_goals (with_reducible rfl))
    (try simp only [Act.put]); (try simp only [List.setIfInBounds_toArray]); (try simp only [List.set_cons_succ]); (try simp only [List.set_cons_zero])
    refine wpAnyH_take (i := 2) (v := ?_) opAt2 (by kernel_rfl) (by kernel_rfl) (by kernel_rfl) (fun _ _ _ h => h) (Or.inl ⟨by rfl, ?_⟩) hHeld ?_
    case refine_2 => (intro w hSw; (try dsimp only at hSw); go_simp; all_goals (with_reducible rfl))
    (try simp only [Act.put]); (try simp only [List.setIfInBounds_toArray]); (try simp only [List.set_cons_succ]); (try simp only [List.set_cons_zero])
    refine wpAnyH_take (i := 3) (v := ?_) opAt3 (by kernel_rfl) (by kernel_rfl) (by kernel_rfl) (fun _ _ _ h => h) (Or.inl ⟨by rfl, ?_⟩) hHeld ?_
    case refine_2 => (intro w hSw; (try dsimp only at hSw); go_simp; all_goals (with_reducible rfl))
    (try simp only [Act.put]); (try simp only [List.setIfInBounds_toArray]); (try simp only [List.set_cons_succ]); (try simp only [List.set_cons_zero])
    refine wpAnyH_ready (rs := [4]) (by kernel_rfl) (by simp) ?_
    refine AllReadyH.cons opAt4 (fun K hK => ?_) AllReadyH.nil
    go_simp
    go_at_call 14; refine (few_any S (a.size + 1) _ _ a 300 (by omega) (by omega) (by omega) (RA.out.kept (Kept.refl _ w1).drew)).mono ?_; rintro e w5 ⟨rfl, k5⟩; have K5 := Lib.hid (keptFF (Kept.refl _ w1).drew k5); dsimp only
    refine hK.out _ _ ?_ (fun hHeld => ?_)
    · exact ⟨k5.cell hHeld.1 (fun f => f), k5.cell hHeld.2 (fun f => f)⟩
    clear hK K
    (try simp only [Act.put]); (try simp only [List.setIfInBounds_toArray]); (try simp only [List.set_cons_succ]); (try simp only [List.set_cons_zero])
    refine wpAnyH_ready (rs := [5]) (by kernel_rfl) (by simp) ?_
    refine AllReadyH.cons opAt5 (fun K hK => ?_) AllReadyH.nil
    go_simp
    go_at_call 14; refine (few_any S (b.size + 1) _ _ b (fewF a 300) (by omega) (fewF_ge a 300 (by omega)) (fewF_le a 300) (RB.out.kept K5.out)).mono ?_; rintro e w6 ⟨rfl, k6⟩; have K6 := Lib.hid (keptFF K5.out k6); dsimp only
    refine hK.out _ _ ?_ (fun hHeld => ?_)
    · exact ⟨k6.cell hHeld.1 (fun f => f), k6.cell hHeld.2 (fun f => f)⟩
    clear hK K
    (try simp only [Act.put]); (try simp only [List.setIfInBounds_toArray]); (try simp only [List.set_cons_succ]); (try simp only [List.set_cons_zero])
    refine wpAnyH_take (i := 6) (v := ?_) opAt6 (by kernel_rfl) (by kernel_rfl) (by kernel_rfl) (fun _ _ _ h => h) (Or.inl ⟨by rfl, ?_⟩) hHeld ?_
    case refine_2 => (intro w hSw; (try dsimp only at hSw); go_simp; all_goals (with_reducible rfl))
    (try simp only [Act.put]); (try simp only [List.setIfInBounds_toArray]); (try simp only [List.set_cons_succ]); (try simp only [List.set_cons_zero])
    refine wpAnyH_done (by kernel_rfl) ?_ _
    have c0 := K6.out.cell C0.out (fun f => f)
    have c1 := K6.out.cell C1.out (fun f => f)
    go_wp2_with fail
    refine (flat_any S w6 _ _ a b (RA.out.kept K6.out) (RB.out.kept K6.out) (by rw [SZ.out]; omega)).mono ?_
    rw [SZ.out, HFF.out]
    rintro e w7 ⟨fv, rfl, own7, k7⟩
    obtain ⟨fa, fc, rfl⟩ : ∃ a c, fv = .slice a n c := by
      rcases row_form own7 with ⟨q1, q2⟩ | ⟨g', c', q1, _⟩
      · exact ⟨none, 0, by rw [q1, q2]⟩
      · exact ⟨_, _, q1⟩
    obtain ⟨b7, hb7⟩ : ∃ b, w6.heap.size = b := ⟨_, rfl⟩
    rw [hb7] at own7
    have B7 := Lib.hid (show w1.heap.size ≤ b7 from by rw [← hb7]; exact K6.out.size)
    have K7 := Lib.hid (keptFF K6.out k7); have O7 := Lib.hid own7
    clear k7 own7 hb7 c0 c1
    have c0 := K7.out.cell C0.out (fun f => f)
    have c1 := K7.out.cell C1.out (fun f => f)
    go_wp2_with fail
    refine (rFlat_any S w7 _ _ a b (RA.out.kept K7.out) (RB.out.kept K7.out) (by rw [SZ.out]; omega)).mono ?_
    rw [SZ.out, HFF.out]
    rintro e w8 ⟨gv, rfl, own8, k8⟩
    obtain ⟨ga, gc, rfl⟩ : ∃ a c, gv = .slice a n c := by
      rcases row_form own8 with ⟨q1, q2⟩ | ⟨g', c', q1, _⟩
      · exact ⟨none, 0, by rw [q1, q2]⟩
      · exact ⟨_, _, q1⟩
    have K8 := Lib.hid (keptFF K7.out k8); have O8 := Lib.hid own8
    have OL8 := Lib.hid (own_keptS O7.out k8 (fun _ _ f => f))
    have W8 := Lib.hid (own_readsO O8.out FN.out); have L8 := Lib.hid (own_readsO OL8.out FN.out)
    have A8 := Lib.hid (RA.out.kept K8.out); have B8 := Lib.hid (RB.out.kept K8.out)
    have GOFF := Lib.hid (show ∀ g, fa = some ⟨g, 0, none⟩ → ∀ q, (Value.slice ga n gc).ownBlock = some q → q ≠ g from fun g e q hq e2 => by
      have h1 := (own_lt O8.out hq).1
      have h2 := (own_lt O7.out (k := g) (by rw [e]; rfl)).2
      omega)
    have GB := Lib.hid (show ∀ g, fa = some ⟨g, 0, none⟩ → b7 ≤ g from fun g e => (own_lt O7.out (k := g) (by rw [e]; rfl)).1)
    clear k8 own8 c0 c1
    have c0 := K8.out.cell C0.out (fun f => f)
    have c1 := K8.out.cell C1.out (fun f => f)
    have d0 : ((n : Int) != (n : Int)) = false := by simp
    go_wp2
    refine wp_region_held_drew (S := (fun w' => w'.cell? ⟨tb, 0, none⟩ = some (.slice ra rn rc) ∧ w'.cell? ⟨tb, 1, none⟩ = some (.slice oa on oc))) (by kernel_rfl) ?_ (fun hHeld => ?_)
    · exact ⟨c0, c1⟩
    refine wpAnyH_take (i := 0) (v := ?_) opAt0 (by kernel_rfl) (by kernel_rfl) (by kernel_rfl) (fun _ _ _ h => h) (Or.inl ⟨by rfl, ?_⟩) hHeld ?_
    case refine_2 => (intro w hSw; (try dsimp only at hSw); go_simp; all_goals (with_reducible rfl))
    (try simp only [Act.put]); (try simp only [List.setIfInBounds_toArray]); (try simp only [List.set_cons_succ]); (try simp only [List.set_cons_zero])
    refine wpAnyH_take (i := 1) (v := ?_) opAt1 (by kernel_rfl) (by kernel_rfl) (by kernel_rfl) (fun _ _ _ h => h) (Or.inl ⟨by rfl, ?_⟩) hHeld ?_
    case refine_2 => (intro w hSw; (try dsimp only at hSw); go_simp; all_goals (with_reducible rfl))
    (try simp only [Act.put]); (try simp only [List.setIfInBounds_toArray]); (try simp only [List.set_cons_succ]); (try simp only [List.set_cons_zero])
    refine wpAnyH_ready (rs := [2]) (by kernel_rfl) (by simp) ?_
    refine AllReadyH.cons opAt2 (fun K hK => ?_) AllReadyH.nil
    go_simp
    go_at_call 12; refine (samespans_any _ _ _ F F (L8.out.keptF (Kept.refl _ w8).drew) (W8.out.keptF (Kept.refl _ w8).drew) FL.out).mono ?_; rw [sameB_refl]; rintro e w9 ⟨rfl, k9⟩; have K9 := Lib.hid (keptFF (Kept.refl _ w8).drew k9); dsimp only
    refine hK.out _ _ ?_ (fun hHeld => ?_)
    · exact ⟨k9.cell hHeld.1 (fun f => f), k9.cell hHeld.2 (fun f => f)⟩
    clear hK K
    (try simp only [Act.put]); (try simp only [List.setIfInBounds_toArray]); (try simp only [List.set_cons_succ]); (try simp only [List.set_cons_zero])
    refine wpAnyH_take (i := 3) (v := ?_) opAt3 (by kernel_rfl) (by kernel_rfl) (by kernel_rfl) (fun _ _ _ h => h) (Or.inl ⟨by rfl, ?_⟩) hHeld ?_
    case refine_2 => (intro w hSw; (try dsimp only at hSw); go_simp; all_goals (with_reducible rfl))
    (try simp only [Act.put]); (try simp only [List.setIfInBounds_toArray]); (try simp only [List.set_cons_succ]); (try simp only [List.set_cons_zero])
    refine wpAnyH_take (i := 4) (v := ?_) opAt4 (by kernel_rfl) (by kernel_rfl) (by kernel_rfl) (fun _ _ _ h => h) (Or.inl ⟨by rfl, ?_⟩) hHeld ?_
    case refine_2 => (intro w hSw; (try dsimp only at hSw); go_simp; all_goals (with_reducible rfl))
    (try simp only [Act.put]); (try simp only [List.setIfInBounds_toArray]); (try simp only [List.set_cons_succ]); (try simp only [List.set_cons_zero])
    refine wpAnyH_take (i := 5) (v := ?_) opAt5 (by kernel_rfl) (by kernel_rfl) (by kernel_rfl) (fun _ _ _ h => h) (Or.inl ⟨by rfl, ?_⟩) hHeld ?_
    case refine_2 => (intro w hSw; (try dsimp only at hSw); go_simp; all_goals (with_reducible rfl))
    (try simp only [Act.put]); (try simp only [List.setIfInBounds_toArray]); (try simp only [List.set_cons_succ]); (try simp only [List.set_cons_zero])
    refine wpAnyH_take (i := 7) (v := ?_) opAt7 (by kernel_rfl) (by kernel_rfl) (by kernel_rfl) (fun _ _ _ h => h) (Or.inl ⟨by rfl, ?_⟩) hHeld ?_
    case refine_2 => (intro w hSw; (try dsimp only at hSw); go_simp; all_goals (with_reducible rfl))
    (try simp only [Act.put]); (try simp only [List.setIfInBounds_toArray]); (try simp only [List.set_cons_succ]); (try simp only [List.set_cons_zero])
    refine wpAnyH_ready (rs := [6]) (by kernel_rfl) (by simp) ?_
    refine AllReadyH.cons opAt6 (fun K hK => ?_) AllReadyH.nil
    go_simp
    go_at_call 17; refine (count_any S _ _ _ a b (A8.out.kept K9.out) (B8.out.kept K9.out) (by rw [SZ.out]; omega)).mono ?_; rw [SZ.out]; rintro e w10 ⟨rfl, k10⟩; have K10 := Lib.hid (keptFF K9.out k10); dsimp only
    refine hK.out _ _ ?_ (fun hHeld => ?_)
    · exact ⟨k10.cell hHeld.1 (fun f => f), k10.cell hHeld.2 (fun f => f)⟩
    clear hK K
    (try simp only [Act.put]); (try simp only [List.setIfInBounds_toArray]); (try simp only [List.set_cons_succ]); (try simp only [List.set_cons_zero])
    refine wpAnyH_ready (rs := [8]) (by kernel_rfl) (by simp) ?_
    refine AllReadyH.cons opAt8 (fun K hK => ?_) AllReadyH.nil
    go_simp
    go_at_call 18; refine (rCount_any S _ _ _ a b (A8.out.kept K10.out) (B8.out.kept K10.out) (by rw [SZ.out]; omega)).mono ?_; rw [SZ.out]; rintro e w11 ⟨rfl, k11⟩; have K11 := Lib.hid (keptFF K10.out k11); dsimp only
    refine hK.out _ _ ?_ (fun hHeld => ?_)
    · exact ⟨k11.cell hHeld.1 (fun f => f), k11.cell hHeld.2 (fun f => f)⟩
    clear hK K
    (try simp only [Act.put]); (try simp only [List.setIfInBounds_toArray]); (try simp only [List.set_cons_succ]); (try simp only [List.set_cons_zero])
    refine wpAnyH_take (i := 9) (v := ?_) opAt9 (by kernel_rfl) (by kernel_rfl) (by kernel_rfl) (fun _ _ _ h => h) (Or.inl ⟨by rfl, ?_⟩) hHeld ?_
    case refine_2 => (intro w hSw; (try dsimp only at hSw); go_simp; all_goals (with_reducible rfl))
    (try simp only [Act.put]); (try simp only [List.setIfInBounds_toArray]); (try simp only [List.set_cons_succ]); (try simp only [List.set_cons_zero])
    refine wpAnyH_take (i := 10) (v := ?_) opAt10 (by kernel_rfl) (by kernel_rfl) (by kernel_rfl) (fun _ _ _ h => h) (Or.inl ⟨by rfl, ?_⟩) hHeld ?_
    case refine_2 => (intro w hSw; (try dsimp only at hSw); go_simp; all_goals (with_reducible rfl))
    (try simp only [Act.put]); (try simp only [List.setIfInBounds_toArray]); (try simp only [List.set_cons_succ]); (try simp only [List.set_cons_zero])
    refine wpAnyH_done (by kernel_rfl) ?_ _
    have OL11 := Lib.hid (own_keptS OL8.out K11.out (fun _ _ f => f))
    have W11 := Lib.hid (W8.out.keptF K11.out)
    have KW11 := Lib.hid (keptFF K8.out K11.out)
    clear c0 c1
    go_wp2
    go_loopg [5] n (fun ghv s wr => ∃ (i : Nat) (L1 : List Spn), i + ghv = n ∧ s = .int .i64 i ∧ L1.length = n ∧ wr.ownsRow b7 24 8 (.slice fa n fc) n (cellsS L1) ∧ Kept (fun k => fa = some ⟨k, 0, none⟩) w11 wr)
    case atStart => exact ⟨0, F, by omega, by go_num, FN.out, OL11.out, Kept.refl _ _⟩
    case round =>
      obtain ⟨i, L1, hg1, rfl, hl1, hrow, hki⟩ := hrel
      have G1 := Lib.hid hg1; have ROW1 := Lib.hid hrow; have KI := Lib.hid hki
      clear hg1 hrow hki
      by_cases hin : i < n
      · have i0 : (i : Int) < (n : Int) := by omega
        have i1 : (0 : Int) ≤ (i : Int) := by omega
        have e1 : IntKind.i64.wrap ((i : Int) + 1) = ((i + 1 : Nat) : Int) := IntWalk.i64_in _ (by omega)
        obtain ⟨g, rfl, _, _⟩ := row_some2 ROW1.out (by omega)
        have hjl : i < L1.length := by omega
        have HO2 := Lib.hid (own_set ROW1.out mark9 hjl)
        have KF := Lib.hid (Kept.setCells (S := fun k => some (⟨g, 0, none⟩ : Addr) = some ⟨k, 0, none⟩) (fun _ => rfl) mark9.cells (i * 8) KI.out)
        go_wp2_with (refine wpList_store_letter (by rfl) 24 _ _ (by rfl) g (i * 8) mark9.cells.toArray (by rfl) (by rfl) (own_there ROW1.out hjl) info24 (cells_all mark9) ?_; intro W2 hW2; have O2 := Lib.hid (show W2.ownsRow b7 24 8 (.slice (some ⟨g, 0, none⟩) n fc) n (cellsS (L1.set i mark9)) from by rw [hW2]; exact HO2.out); have KP := Lib.hid (show Kept (fun k => some (⟨g, 0, none⟩ : Addr) = some ⟨k, 0, none⟩) w11 W2 from by rw [hW2]; exact KF.out); clear hW2)
        go_roundg (n - (i + 1))
        case measure => have := G1.out; omega
        case rel => exact ⟨i + 1, L1.set i mark9, by omega, by go_num, by simpa using hl1, O2.out, KP.out⟩
      · have i0 : ¬ (i : Int) < (n : Int) := by omega
        have OFF := Lib.hid (show ∀ k, k < w11.heap.size → S k → ¬ fa = some ⟨k, 0, none⟩ from fun k _ hs e => by
          have h1 := GB.out k e
          rw [HS.out] at hs
          have h2 : k < b0 := hs
          have h3 := B7.out; have h4 := KT.out.size; have h5 := HB0.out
          omega)
        have AR := Lib.hid (((RA.out.kept KW11.out).keptS KI.out OFF.out (fun _ _ h => h)))
        have BR := Lib.hid (((RB.out.kept KW11.out).keptS KI.out OFF.out (fun _ _ h => h)))
        have WR := Lib.hid (W11.out.kept KI.out (fun q hq e => GOFF.out q e q hq rfl) (fun g' o' n' c' e e2 => by
          have h := O8.out
          rw [e] at h
          have hz := row_form h
          rcases hz with ⟨hz, _⟩ | ⟨g3, c3, hz, _⟩
          · cases hz
          · cases hz
            exact GOFF.out g' e2 g' (by rw [e]; rfl) rfl))
        have KW := Lib.hid ((keptFF KT.out KW11.out).trans KI.out (fun _ _ f => f) (fun q h1 h2 => by
          have h3 := GB.out q h2; have h4 := B7.out; have h5 := KT.out.size; have h6 : q < w.heap.size := h1; omega) : Kept (fun _ => False) w wr)
        have TOFF : ¬ fa = some ⟨tb, 0, none⟩ := fun e => by have h1 := GB.out tb e; have h2 := TB.out; have h3 := B7.out; omega
        have c0 := KI.out.cell (KW11.out.cell C0.out (fun f => f)) TOFF
        have c1 := KI.out.cell (KW11.out.cell C1.out (fun f => f)) TOFF
        clear TOFF
        go_wp2_with fail
        refine (flat_any S wr _ _ a b AR.out BR.out (by rw [SZ.out]; omega)).mono ?_
        rw [SZ.out, HFF.out]
        rintro e w12 ⟨hv, rfl, own12, k12⟩
        have H12 := Lib.hid (show ReadsS w12 hv F from by
          rcases row_form own12 with ⟨q1, q2⟩ | ⟨g', c', q1, _⟩
          · subst q1; rw [q2] at own12; exact own_readsO own12 (by rw [FN.out]; exact q2)
          · subst q1; exact own_readsO own12 FN.out)
        have K12 := Lib.hid (keptFF KW.out k12); have W12 := Lib.hid (WR.out.keptF k12)
        clear k12 own12 c0 c1
        go_wp2_with fail
        refine (samespans_any w12 _ _ F F H12.out W12.out FL.out).mono ?_
        rw [sameB_refl]
        rintro e w13 ⟨rfl, k13⟩
        have K13 := Lib.hid (keptFF K12.out k13)
        clear k13
        go_wp2_with fail
        refine (does_any w13).mono ?_
        rintro e w14 ⟨rfl, k14⟩
        have K14 := Lib.hid (keptFF K13.out k14)
        clear k14
        go_wp2
        go_ret
        exact ⟨rfl, K14.out⟩
end Go.Proofs.Ytjidldbolbjdpaa
