/- ModelOnce, walked whole: at every input it returns true. -/
import Derived.Test.YtibakmchgppndaaOnceP
namespace Go.Proofs.Ytibakmchgppndaa
open Go.RowKit Go.MapKept Go.Instr Go.ChangeMaps

theorem chk_fits {m : Spn} (h : chkB m = true) : Fits m := by
  unfold chkB nameB at h
  simp at h
  unfold Fits
  omega
theorem ReadsS.of_own {w : World} {base : Nat} {v : Value} {L : List Spn} (h : w.ownsRow base 37 8 v L.length (cellsS L)) : ReadsS w v L := by
  rcases row_form h with ⟨rfl, h0⟩ | ⟨g, c, rfl, _, _, _, hc⟩
  · exact ⟨none, 0, by rw [h0], .inl (List.eq_nil_of_length_eq_zero h0)⟩
  · exact ⟨_, c, rfl, .inr ⟨g, 0, rfl, fun j u hu => by rw [Nat.zero_add]; exact hc j u hu⟩⟩
theorem kept_new {b : Nat} {w a c : World} (h : Kept (fun _ => False) w a) (k : Kept (fun q => q = b) a c) (hb : w.heap.size ≤ b) : Kept (fun _ => False) w c :=
  h.trans k (fun _ _ f => f) (fun q hq e => absurd hq (by rw [e]; exact Nat.not_lt.2 hb))

set_option maxHeartbeats 16000000 in
set_option maxRecDepth 100000 in
theorem modelOnce_any (w : World) (v : Value) (A : List ActP) (more : Int) (m1 : 0 ≤ more) (m2 : more ≤ 255) (h : ReadsA w v A) (hf : FitsA A) :
    Calls Try.prog 3 #[v, .int .u8 more] w fun e w' => e = .returned (.bool true) ∧ Below w.heap.size w w' := by
  have B : Calls Try.prog 6 #[v, .int .i64 25] w _ := beyondA_all 25 (by omega) h hf
  have BH := Lib.hid B
  have HF := Lib.hid hf
  obtain ⟨ao, cap, rfl, h⟩ := h
  have HR := Lib.hid h
  clear B hf h
  go_enter Try.func3, Try.ntmps3
  go_wp2_with fail
  refine BH.out.mono ?_
  rintro e w1 ⟨rfl | ⟨rfl, hlen, hmany⟩, rfl⟩
  · go_wp2_with fail
    refine (lives_any w).mono ?_
    rintro e w2 ⟨rfl, k2⟩
    have K2 := Lib.hid k2; clear k2
    go_wp2
    go_ret
    exact ⟨rfl, K2.out⟩
  · have MANY := Lib.hid hmany
    have LEN := Lib.hid hlen
    clear hmany
    go_wp2_with fail
    refine (new_any w).mono ?_
    rintro e w1 ⟨rfl, k1, c1, mp⟩
    obtain ⟨b, hb⟩ : ∃ b, w.heap.size = b := ⟨_, rfl⟩
    obtain ⟨p, hp⟩ : ∃ p, w.heap.size + 1 = p := ⟨_, rfl⟩
    have M0 := Lib.hid (show ModelAt w1 p b [] from by rw [← hp, ← hb]; exact ⟨c1, mp, fun m hm => by cases hm⟩)
    have K1 := Lib.hid k1
    have HB := Lib.hid (Nat.le_of_eq hb)
    rw [hp]
    clear k1 c1 mp hb hp
    go_wp2
    go_loopg [6, 7] A.length (fun gh s t wr => ∃ (i : Nat) (now : Int) (M : List Spn), i + gh = A.length ∧ t = .int .i64 i ∧ s = .int .i64 now ∧ 0 ≤ now ∧ now ≤ 255 * i ∧ Held M ∧ M.length ≤ 20 * i ∧ ModelAt wr p b M ∧ Kept (fun _ => False) w wr)
    case atStart => exact ⟨0, 0, [], by omega, rfl, rfl, by omega, by omega, Held.nil, by simp, M0.out, K1.out⟩
    case round =>
      obtain ⟨i, now, M, ji, rfl, rfl, n1, n2, hM, hML, hmod, kw⟩ := hrel
      have JI := Lib.hid ji; have HM := Lib.hid hM; have ML := Lib.hid hML; have MO := Lib.hid hmod; have KW := Lib.hid kw
      clear ji hM hML hmod kw
      have i3 : i ≤ 25 := by have := JI.out; have := LEN.out; omega
      by_cases hlt : i < A.length
      · obtain ⟨g, o, rfl, hc⟩ : ∃ g o, ao = some ⟨g, o, none⟩ ∧ ∀ i a, A[i]? = some a → ActAt w g (o + i * 4) a := by
          rcases HR.out with h0 | h
          · rw [h0] at hlt; simp at hlt
          · exact h
        obtain ⟨a, ha⟩ : ∃ a, A[i]? = some a := ⟨_, List.getElem?_eq_getElem hlt⟩
        have hmem := List.mem_of_getElem? ha
        obtain ⟨sv, c2, rs, c3⟩ := (hc i a ha).keptF KW.out
        obtain ⟨tk, htk⟩ : ∃ t, a.ticks = t := ⟨_, rfl⟩
        rw [htk] at c3
        have t1 : 0 ≤ tk ∧ tk ≤ 255 := by rw [← htk]; exact HF.out.ticks a hmem
        obtain ⟨t1, t2⟩ := t1
        have i1 : (0 : Int) ≤ (i : Int) := by omega
        have i2 : (i : Int) < (A.length : Int) := by omega
        have T := Lib.hid (take_all (now + tk) (by omega) (by omega) MO.out HM.out rs (by have := MANY.out a hmem; omega) (HF.out.fit a hmem))
        have MA := Lib.hid (MANY.out a hmem)
        clear hc ha htk rs hmem
        go_wp2_with fail
        refine T.out.mono ?_
        rintro e w2 ⟨rfl, k2, mo2⟩
        have K2 := Lib.hid (kept_new KW.out k2 HB.out)
        have MO2 := Lib.hid mo2
        clear k2 mo2
        go_wp2
        go_roundg (A.length - i - 1)
        case measure => have := JI.out; omega
        case rel =>
          exact ⟨i + 1, now + tk, _, by have := JI.out; omega, by go_num, by go_num, by omega, by omega, HM.out.take _, by have e1 := len_take (now + tk) a.spans M []; have e2 := ML.out; have e3 := MA.out; omega, MO2.out, K2.out⟩
      · have i1 : ¬ (i : Int) < (A.length : Int) := by omega
        have hML : M.length ≤ 500 := by have := ML.out; omega
        have n3 : now ≤ 6375 := by omega
        have S1 := Lib.hid (spans_all now n1 (by omega) MO.out (by omega))
        go_wp2_with fail
        refine S1.out.mono ?_
        rintro e w2 ⟨k2, v1, R, rfl, r1, p1, s1⟩
        have hRl : R.length ≤ 500 := by
          have e1 := p1.length_eq
          have e2 := live_len now M
          omega
        have P1 := Lib.hid p1; have SO1 := Lib.hid s1
        have ST := Lib.hid (live_strict HM.out p1 s1)
        have RM := Lib.hid (live_mem p1)
        have MO2 := Lib.hid (MO.out.keptF k2)
        have K2 := Lib.hid (KW.out.trans k2 (fun _ _ f => f) (fun _ _ f => f) : Kept (fun _ => False) w w2)
        have T : Calls Try.prog 9 _ w2 _ := take_all now n1 (by omega) MO2.out HM.out r1 (by omega) (fun m hm => chk_fits (HM.out.may m (RM.out m hm).1))
        rw [take_again HM.out R [] RM.out] at T
        have TH := Lib.hid T
        have RR1 := Lib.hid r1
        obtain ⟨ao1, cap1, rfl, _⟩ := r1
        clear T k2 p1 s1
        go_wp2_with fail
        refine TH.out.mono ?_
        rintro e w3 ⟨rfl, k3, mo3⟩
        have RR3 := Lib.hid (RR1.out.kept_map MO2.out.map k3)
        have MO3 := Lib.hid mo3
        have K3 := Lib.hid (kept_new K2.out k3 HB.out)
        have S2 := Lib.hid (spans_all now n1 (by omega) mo3 (by omega))
        clear k3 mo3
        go_wp2_with fail
        refine S2.out.mono ?_
        rintro e w4 ⟨k4, v2, R2, rfl, r2, p2, s2⟩
        obtain rfl : R2 = R := strict_unique (p2.trans P1.out.symm) (live_strict HM.out p2 s2) ST.out
        have RR4 := Lib.hid (RR3.out.keptF k4)
        have MO4 := Lib.hid (MO3.out.keptF k4)
        have K4 := Lib.hid (K3.out.trans k4 (fun _ _ f => f) (fun _ _ f => f) : Kept (fun _ => False) w w4)
        have SS := Lib.hid (same_refl w4 v2 _ R2 r2 RR4.out (by omega))
        clear k4 p2 s2 r2
        go_wp2_with fail
        refine SS.out.mono ?_
        rintro e w5 ⟨rfl, k5⟩
        have RR5 := Lib.hid (RR4.out.keptF k5)
        have MO5 := Lib.hid (MO4.out.keptF k5)
        have K5 := Lib.hid (K4.out.trans k5 (fun _ _ f => f) (fun _ _ f => f) : Kept (fun _ => False) w w5)
        clear k5
        obtain ⟨i0, hi0, hz0, hz1, hz2⟩ := info_parts inf37
        go_wp2
        go_loopg [10, 11] R2.length (fun gh s t wr => ∃ i : Nat, i + gh = R2.length ∧ t = .int .i64 i ∧ (∃ a c, s = .slice a (liveF (now + more) (R2.take i)).length c) ∧ wr.ownsRow w5.heap.size 37 8 s (liveF (now + more) (R2.take i)).length (cellsS (liveF (now + more) (R2.take i))) ∧ Kept (fun _ => False) w5 wr)
        case atStart => exact ⟨0, by omega, rfl, ⟨none, 0, rfl⟩, World.ownsRow_nil _ _ _ _, Kept.refl _ _⟩
        case round =>
          obtain ⟨i, ji, rfl, ⟨wo, wc, rfl⟩, ho, kk⟩ := hrel
          have JI := Lib.hid ji; have OW := Lib.hid ho; have KK := Lib.hid kk
          clear ji ho kk
          by_cases hin : i < R2.length
          · obtain ⟨x, hx⟩ : ∃ x, R2[i]? = some x := ⟨_, List.getElem?_eq_getElem hin⟩
            obtain ⟨g1, o1, rfl, hc⟩ : ∃ g o, ao1 = some ⟨g, o, none⟩ ∧ ∀ j u, (cellsS R2)[j]? = some u → w5.cell? ⟨g, o + j, none⟩ = some u := by
              obtain ⟨a, c, ev, h⟩ := RR5.out
              cases ev
              rcases h with h0 | h
              · rw [h0] at hin; simp at hin
              · exact h
            have xmem := List.mem_of_getElem? hx
            have xl := (RM.out x xmem).2
            have xn := (chk_num (HM.out.may x (RM.out x xmem).1)).2.2.2.1
            have E1 := Lib.hid (expired_all x now xn.1 xn.2 n1 (by omega))
            have E2 := Lib.hid (expired_all x (now + more) xn.1 xn.2 (by omega) (by omega))
            rw [xl] at E1
            obtain ⟨be, hbe⟩ : ∃ c, lateB x.st (now + more) = c := ⟨_, rfl⟩
            rw [hbe] at E2
            have BE := Lib.hid hbe
            obtain ⟨n, hn⟩ : ∃ n, (liveF (now + more) (R2.take i)).length = n := ⟨_, rfl⟩
            have LN := Lib.hid hn
            have hnl : n ≤ 500 := by
              rw [← hn]
              have e1 := live_len (now + more) (R2.take i)
              rw [List.length_take] at e1
              omega
            rw [hn] at OW ⊢
            have HX := Lib.hid hx
            obtain ⟨q0, q1, q2, q3, q4, q5, q6, q7⟩ := ReadsS.at (fun j u hu => KK.out.cell (hc j u hu) (fun f => f)) hx
            have i1 : (0 : Int) ≤ (i : Int) := by omega
            have i2 : (i : Int) < (R2.length : Int) := by omega
            have i4 : (i : Int) ≤ 500 := by omega
            by_cases hz : i = 0
            · have z1 : ¬ (0 : Int) < (i : Int) := by omega
              clear hx hbe hn xl xn xmem hz hc
              go_wp2
              have z9 : ¬ (0 : Int) < (i : Int) := by omega
              have n9 : ¬ 0 < i := by omega
              refine wp_region_held_drew (S := (fun w' => w'.cell? ⟨g1, o1 + i * 8, none⟩ = some (.int .i64 x.tr) ∧ w'.cell? ⟨g1, o1 + i * 8 + 1, none⟩ = some (.int .i64 x.id) ∧ w'.cell? ⟨g1, o1 + i * 8 + 2, none⟩ = some (.int .i64 x.pa) ∧ w'.cell? ⟨g1, o1 + i * 8 + 3, none⟩ = some (.string x.se) ∧ w'.cell? ⟨g1, o1 + i * 8 + 4, none⟩ = some (.string x.ho) ∧ w'.cell? ⟨g1, o1 + i * 8 + 5, none⟩ = some (.int .i64 x.st) ∧ w'.cell? ⟨g1, o1 + i * 8 + 6, none⟩ = some (.int .i64 x.du) ∧ w'.cell? ⟨g1, o1 + i * 8 + 7, none⟩ = some (.string x.no))) (by kernel_rfl) ?_ (fun hHeld => ?_)
              · exact ⟨q0, q1, q2, q3, q4, q5, q6, q7⟩
              refine wpAnyH_take (i := 0) (v := ?_) opAt0 (by kernel_rfl) (by kernel_rfl) (by kernel_rfl) (fun _ _ _ h => h) (Or.inl ⟨by rfl, ?_⟩) hHeld ?_
              case refine_2 => (intro w hSw; (try dsimp only at hSw); go_simp; all_goals (with_reducible rfl))
              (try simp only [Act.put]); (try simp only [List.setIfInBounds_toArray]); (try simp only [List.set_cons_succ]); (try simp only [List.set_cons_zero])
              refine wpAnyH_take (i := 1) (v := ?_) opAt1 (by kernel_rfl) (by kernel_rfl) (by kernel_rfl) (fun _ _ _ h => h) (Or.inl ⟨by rfl, ?_⟩) hHeld ?_
              case refine_2 => (intro w hSw; (try dsimp only at hSw); go_simp; all_goals (with_reducible rfl))
              (try simp only [Act.put]); (try simp only [List.setIfInBounds_toArray]); (try simp only [List.set_cons_succ]); (try simp only [List.set_cons_zero])
              refine wpAnyH_take (i := 2) (v := ?_) opAt2 (by kernel_rfl) (by kernel_rfl) (by kernel_rfl) (fun _ _ _ h => h) (Or.inl ⟨by rfl, ?_⟩) hHeld ?_
              case refine_2 => (intro w hSw; (try dsimp only at hSw); go_simp; all_goals (with_reducible rfl))
              (try simp only [Act.put]); (try simp only [List.setIfInBounds_toArray]); (try simp only [List.set_cons_succ]); (try simp only [List.set_cons_zero])
              refine wpAnyH_take (i := 3) (v := ?_) opAt3 (by kernel_rfl) (by kernel_rfl) (by kernel_rfl) (fun _ _ _ h => h) (Or.inl ⟨by rfl, ?_⟩) hHeld ?_
              case refine_2 => (intro w hSw; (try dsimp only at hSw); go_simp; all_goals (with_reducible rfl))
              (try simp only [Act.put]); (try simp only [List.setIfInBounds_toArray]); (try simp only [List.set_cons_succ]); (try simp only [List.set_cons_zero])
              refine wpAnyH_take (i := 4) (v := ?_) opAt4 (by kernel_rfl) (by kernel_rfl) (by kernel_rfl) (fun _ _ _ h => h) (Or.inl ⟨by rfl, ?_⟩) hHeld ?_
              case refine_2 => (intro w hSw; (try dsimp only at hSw); go_simp; all_goals (with_reducible rfl))
              (try simp only [Act.put]); (try simp only [List.setIfInBounds_toArray]); (try simp only [List.set_cons_succ]); (try simp only [List.set_cons_zero])
              refine wpAnyH_ready (rs := [5]) (by kernel_rfl) (by simp) ?_
              refine AllReadyH.cons opAt5 (fun K hK => ?_) AllReadyH.nil
              go_simp
              go_at_call 12; refine (E1.out _).mono ?_; rintro e w6 ⟨rfl, k6⟩; dsimp only
              refine hK.out _ _ ?_ (fun hHeld => ?_)
              · exact ⟨k6.cell hHeld.1 (fun f => f), k6.cell hHeld.2.1 (fun f => f), k6.cell hHeld.2.2.1 (fun f => f), k6.cell hHeld.2.2.2.1 (fun f => f), k6.cell hHeld.2.2.2.2.1 (fun f => f), k6.cell hHeld.2.2.2.2.2.1 (fun f => f), k6.cell hHeld.2.2.2.2.2.2.1 (fun f => f), k6.cell hHeld.2.2.2.2.2.2.2 (fun f => f)⟩
              clear hK K
              (try simp only [Act.put]); (try simp only [List.setIfInBounds_toArray]); (try simp only [List.set_cons_succ]); (try simp only [List.set_cons_zero])
              refine wpAnyH_take (i := 6) (v := ?_) opAt6 (by kernel_rfl) (by kernel_rfl) (by kernel_rfl) (fun _ _ _ h => h) (Or.inl ⟨by rfl, ?_⟩) hHeld ?_
              case refine_2 => (intro w hSw; (try dsimp only at hSw); go_simp; all_goals (with_reducible rfl))
              (try simp only [Act.put]); (try simp only [List.setIfInBounds_toArray]); (try simp only [List.set_cons_succ]); (try simp only [List.set_cons_zero])
              refine wpAnyH_take (i := 7) (v := ?_) opAt7 (by kernel_rfl) (by kernel_rfl) (by kernel_rfl) (fun _ _ _ h => h) (Or.inl ⟨by rfl, ?_⟩) hHeld ?_
              case refine_2 => (intro w hSw; (try dsimp only at hSw); go_simp; all_goals (with_reducible rfl))
              (try simp only [Act.put]); (try simp only [List.setIfInBounds_toArray]); (try simp only [List.set_cons_succ]); (try simp only [List.set_cons_zero])
              refine wpAnyH_take (i := 8) (v := ?_) opAt8 (by kernel_rfl) (by kernel_rfl) (by kernel_rfl) (fun _ _ _ h => h) (Or.inl ⟨by rfl, ?_⟩) hHeld ?_
              case refine_2 => (intro w hSw; (try dsimp only at hSw); go_simp; all_goals (with_reducible rfl))
              (try simp only [Act.put]); (try simp only [List.setIfInBounds_toArray]); (try simp only [List.set_cons_succ]); (try simp only [List.set_cons_zero])
              refine wpAnyH_take (i := 9) (v := ?_) opAt9 (by kernel_rfl) (by kernel_rfl) (by kernel_rfl) (fun _ _ _ h => h) (Or.inl ⟨by rfl, ?_⟩) hHeld ?_
              case refine_2 => (intro w hSw; (try dsimp only at hSw); go_simp; all_goals (with_reducible rfl))
              (try simp only [Act.put]); (try simp only [List.setIfInBounds_toArray]); (try simp only [List.set_cons_succ]); (try simp only [List.set_cons_zero])
              refine wpAnyH_take (i := 10) opAt10 (by kernel_rfl) (by kernel_rfl) (by kernel_rfl) (fun _ _ _ h => h) (Or.inr ⟨by rfl, rfl⟩) hHeld ?_
              (try simp only [Act.put]); (try simp only [List.setIfInBounds_toArray]); (try simp only [List.set_cons_succ]); (try simp only [List.set_cons_zero])
              refine wpAnyH_take (i := 11) opAt11 (by kernel_rfl) (by kernel_rfl) (by kernel_rfl) (fun _ _ _ h => h) (Or.inr ⟨by rfl, rfl⟩) hHeld ?_
              (try simp only [Act.put]); (try simp only [List.setIfInBounds_toArray]); (try simp only [List.set_cons_succ]); (try simp only [List.set_cons_zero])
              refine wpAnyH_take (i := 12) opAt12 (by kernel_rfl) (by kernel_rfl) (by kernel_rfl) (fun _ _ _ h => h) (Or.inr ⟨by rfl, rfl⟩) hHeld ?_
              (try simp only [Act.put]); (try simp only [List.setIfInBounds_toArray]); (try simp only [List.set_cons_succ]); (try simp only [List.set_cons_zero])
              refine wpAnyH_take (i := 13) opAt13 (by kernel_rfl) (by kernel_rfl) (by kernel_rfl) (fun _ _ _ h => h) (Or.inr ⟨by rfl, rfl⟩) hHeld ?_
              (try simp only [Act.put]); (try simp only [List.setIfInBounds_toArray]); (try simp only [List.set_cons_succ]); (try simp only [List.set_cons_zero])
              refine wpAnyH_take (i := 14) opAt14 (by kernel_rfl) (by kernel_rfl) (by kernel_rfl) (fun _ _ _ h => h) (Or.inr ⟨by rfl, rfl⟩) hHeld ?_
              (try simp only [Act.put]); (try simp only [List.setIfInBounds_toArray]); (try simp only [List.set_cons_succ]); (try simp only [List.set_cons_zero])
              refine wpAnyH_take (i := 15) opAt15 (by kernel_rfl) (by kernel_rfl) (by kernel_rfl) (fun _ _ _ h => h) (Or.inr ⟨by rfl, rfl⟩) hHeld ?_
              (try simp only [Act.put]); (try simp only [List.setIfInBounds_toArray]); (try simp only [List.set_cons_succ]); (try simp only [List.set_cons_zero])
              refine wpAnyH_take (i := 16) opAt16 (by kernel_rfl) (by kernel_rfl) (by kernel_rfl) (fun _ _ _ h => h) (Or.inr ⟨by rfl, rfl⟩) hHeld ?_
              (try simp only [Act.put]); (try simp only [List.setIfInBounds_toArray]); (try simp only [List.set_cons_succ]); (try simp only [List.set_cons_zero])
              refine wpAnyH_take (i := 17) opAt17 (by kernel_rfl) (by kernel_rfl) (by kernel_rfl) (fun _ _ _ h => h) (Or.inr ⟨by rfl, rfl⟩) hHeld ?_
              (try simp only [Act.put]); (try simp only [List.setIfInBounds_toArray]); (try simp only [List.set_cons_succ]); (try simp only [List.set_cons_zero])
              refine wpAnyH_take (i := 18) opAt18 (by kernel_rfl) (by kernel_rfl) (by kernel_rfl) (fun _ _ _ h => h) (Or.inr ⟨by rfl, rfl⟩) hHeld ?_
              (try simp only [Act.put]); (try simp only [List.setIfInBounds_toArray]); (try simp only [List.set_cons_succ]); (try simp only [List.set_cons_zero])
              refine wpAnyH_take (i := 19) opAt19 (by kernel_rfl) (by kernel_rfl) (by kernel_rfl) (fun _ _ _ h => h) (Or.inr ⟨by rfl, rfl⟩) hHeld ?_
              (try simp only [Act.put]); (try simp only [List.setIfInBounds_toArray]); (try simp only [List.set_cons_succ]); (try simp only [List.set_cons_zero])
              refine wpAnyH_take (i := 20) opAt20 (by kernel_rfl) (by kernel_rfl) (by kernel_rfl) (fun _ _ _ h => h) (Or.inr ⟨by rfl, rfl⟩) hHeld ?_
              (try simp only [Act.put]); (try simp only [List.setIfInBounds_toArray]); (try simp only [List.set_cons_succ]); (try simp only [List.set_cons_zero])
              refine wpAnyH_take (i := 21) opAt21 (by kernel_rfl) (by kernel_rfl) (by kernel_rfl) (fun _ _ _ h => h) (Or.inr ⟨by rfl, rfl⟩) hHeld ?_
              (try simp only [Act.put]); (try simp only [List.setIfInBounds_toArray]); (try simp only [List.set_cons_succ]); (try simp only [List.set_cons_zero])
              refine wpAnyH_take (i := 22) opAt22 (by kernel_rfl) (by kernel_rfl) (by kernel_rfl) (fun _ _ _ h => h) (Or.inr ⟨by rfl, rfl⟩) hHeld ?_
              (try simp only [Act.put]); (try simp only [List.setIfInBounds_toArray]); (try simp only [List.set_cons_succ]); (try simp only [List.set_cons_zero])
              refine wpAnyH_take (i := 23) opAt23 (by kernel_rfl) (by kernel_rfl) (by kernel_rfl) (fun _ _ _ h => h) (Or.inr ⟨by rfl, rfl⟩) hHeld ?_
              (try simp only [Act.put]); (try simp only [List.setIfInBounds_toArray]); (try simp only [List.set_cons_succ]); (try simp only [List.set_cons_zero])
              refine wpAnyH_take (i := 24) opAt24 (by kernel_rfl) (by kernel_rfl) (by kernel_rfl) (fun _ _ _ h => h) (Or.inr ⟨by rfl, rfl⟩) hHeld ?_
              (try simp only [Act.put]); (try simp only [List.setIfInBounds_toArray]); (try simp only [List.set_cons_succ]); (try simp only [List.set_cons_zero])
              refine wpAnyH_take (i := 25) opAt25 (by kernel_rfl) (by kernel_rfl) (by kernel_rfl) (fun _ _ _ h => h) (Or.inr ⟨by rfl, rfl⟩) hHeld ?_
              (try simp only [Act.put]); (try simp only [List.setIfInBounds_toArray]); (try simp only [List.set_cons_succ]); (try simp only [List.set_cons_zero])
              refine wpAnyH_take (i := 26) opAt26 (by kernel_rfl) (by kernel_rfl) (by kernel_rfl) (fun _ _ _ h => h) (Or.inr ⟨by rfl, rfl⟩) hHeld ?_
              (try simp only [Act.put]); (try simp only [List.setIfInBounds_toArray]); (try simp only [List.set_cons_succ]); (try simp only [List.set_cons_zero])
              refine wpAnyH_take (i := 27) opAt27 (by kernel_rfl) (by kernel_rfl) (by kernel_rfl) (fun _ _ _ h => h) (Or.inr ⟨by rfl, rfl⟩) hHeld ?_
              (try simp only [Act.put]); (try simp only [List.setIfInBounds_toArray]); (try simp only [List.set_cons_succ]); (try simp only [List.set_cons_zero])
              refine wpAnyH_take (i := 28) opAt28 (by kernel_rfl) (by kernel_rfl) (by kernel_rfl) (fun _ _ _ h => h) (Or.inr ⟨by rfl, rfl⟩) hHeld ?_
              (try simp only [Act.put]); (try simp only [List.setIfInBounds_toArray]); (try simp only [List.set_cons_succ]); (try simp only [List.set_cons_zero])
              refine wpAnyH_take (i := 29) opAt29 (by kernel_rfl) (by kernel_rfl) (by kernel_rfl) (fun _ _ _ h => h) (Or.inr ⟨by rfl, rfl⟩) hHeld ?_
              (try simp only [Act.put]); (try simp only [List.setIfInBounds_toArray]); (try simp only [List.set_cons_succ]); (try simp only [List.set_cons_zero])
              refine wpAnyH_take (i := 30) opAt30 (by kernel_rfl) (by kernel_rfl) (by kernel_rfl) (fun _ _ _ h => h) (Or.inr ⟨by rfl, rfl⟩) hHeld ?_
              (try simp only [Act.put]); (try simp only [List.setIfInBounds_toArray]); (try simp only [List.set_cons_succ]); (try simp only [List.set_cons_zero])
              refine wpAnyH_take (i := 31) opAt31 (by kernel_rfl) (by kernel_rfl) (by kernel_rfl) (fun _ _ _ h => h) (Or.inr ⟨by rfl, rfl⟩) hHeld ?_
              (try simp only [Act.put]); (try simp only [List.setIfInBounds_toArray]); (try simp only [List.set_cons_succ]); (try simp only [List.set_cons_zero])
              refine wpAnyH_take (i := 32) opAt32 (by kernel_rfl) (by kernel_rfl) (by kernel_rfl) (fun _ _ _ h => h) (Or.inr ⟨by rfl, rfl⟩) hHeld ?_
              (try simp only [Act.put]); (try simp only [List.setIfInBounds_toArray]); (try simp only [List.set_cons_succ]); (try simp only [List.set_cons_zero])
              refine wpAnyH_take (i := 33) opAt33 (by kernel_rfl) (by kernel_rfl) (by kernel_rfl) (fun _ _ _ h => h) (Or.inr ⟨by rfl, rfl⟩) hHeld ?_
              (try simp only [Act.put]); (try simp only [List.setIfInBounds_toArray]); (try simp only [List.set_cons_succ]); (try simp only [List.set_cons_zero])
              refine wpAnyH_take (i := 34) opAt34 (by kernel_rfl) (by kernel_rfl) (by kernel_rfl) (fun _ _ _ h => h) (Or.inr ⟨by rfl, rfl⟩) hHeld ?_
              (try simp only [Act.put]); (try simp only [List.setIfInBounds_toArray]); (try simp only [List.set_cons_succ]); (try simp only [List.set_cons_zero])
              refine wpAnyH_take (i := 35) opAt35 (by kernel_rfl) (by kernel_rfl) (by kernel_rfl) (fun _ _ _ h => h) (Or.inr ⟨by rfl, rfl⟩) hHeld ?_
              (try simp only [Act.put]); (try simp only [List.setIfInBounds_toArray]); (try simp only [List.set_cons_succ]); (try simp only [List.set_cons_zero])
              refine wpAnyH_take (i := 36) opAt36 (by kernel_rfl) (by kernel_rfl) (by kernel_rfl) (fun _ _ _ h => h) (Or.inr ⟨by rfl, rfl⟩) hHeld ?_
              (try simp only [Act.put]); (try simp only [List.setIfInBounds_toArray]); (try simp only [List.set_cons_succ]); (try simp only [List.set_cons_zero])
              refine wpAnyH_take (i := 37) opAt37 (by kernel_rfl) (by kernel_rfl) (by kernel_rfl) (fun _ _ _ h => h) (Or.inr ⟨by rfl, rfl⟩) hHeld ?_
              (try simp only [Act.put]); (try simp only [List.setIfInBounds_toArray]); (try simp only [List.set_cons_succ]); (try simp only [List.set_cons_zero])
              refine wpAnyH_take (i := 38) opAt38 (by kernel_rfl) (by kernel_rfl) (by kernel_rfl) (fun _ _ _ h => h) (Or.inr ⟨by rfl, rfl⟩) hHeld ?_
              (try simp only [Act.put]); (try simp only [List.setIfInBounds_toArray]); (try simp only [List.set_cons_succ]); (try simp only [List.set_cons_zero])
              refine wpAnyH_take (i := 39) opAt39 (by kernel_rfl) (by kernel_rfl) (by kernel_rfl) (fun _ _ _ h => h) (Or.inr ⟨by rfl, rfl⟩) hHeld ?_
              (try simp only [Act.put]); (try simp only [List.setIfInBounds_toArray]); (try simp only [List.set_cons_succ]); (try simp only [List.set_cons_zero])
              refine wpAnyH_take (i := 40) opAt40 (by kernel_rfl) (by kernel_rfl) (by kernel_rfl) (fun _ _ _ h => h) (Or.inr ⟨by rfl, rfl⟩) hHeld ?_
              (try simp only [Act.put]); (try simp only [List.setIfInBounds_toArray]); (try simp only [List.set_cons_succ]); (try simp only [List.set_cons_zero])
              refine wpAnyH_take (i := 41) opAt41 (by kernel_rfl) (by kernel_rfl) (by kernel_rfl) (fun _ _ _ h => h) (Or.inr ⟨by rfl, rfl⟩) hHeld ?_
              (try simp only [Act.put]); (try simp only [List.setIfInBounds_toArray]); (try simp only [List.set_cons_succ]); (try simp only [List.set_cons_zero])
              refine wpAnyH_take (i := 42) opAt42 (by kernel_rfl) (by kernel_rfl) (by kernel_rfl) (fun _ _ _ h => h) (Or.inr ⟨by rfl, rfl⟩) hHeld ?_
              (try simp only [Act.put]); (try simp only [List.setIfInBounds_toArray]); (try simp only [List.set_cons_succ]); (try simp only [List.set_cons_zero])
              refine wpAnyH_take (i := 43) opAt43 (by kernel_rfl) (by kernel_rfl) (by kernel_rfl) (fun _ _ _ h => h) (Or.inr ⟨by rfl, rfl⟩) hHeld ?_
              (try simp only [Act.put]); (try simp only [List.setIfInBounds_toArray]); (try simp only [List.set_cons_succ]); (try simp only [List.set_cons_zero])
              refine wpAnyH_take (i := 44) opAt44 (by kernel_rfl) (by kernel_rfl) (by kernel_rfl) (fun _ _ _ h => h) (Or.inr ⟨by rfl, rfl⟩) hHeld ?_
              (try simp only [Act.put]); (try simp only [List.setIfInBounds_toArray]); (try simp only [List.set_cons_succ]); (try simp only [List.set_cons_zero])
              refine wpAnyH_take (i := 45) opAt45 (by kernel_rfl) (by kernel_rfl) (by kernel_rfl) (fun _ _ _ h => h) (Or.inr ⟨by rfl, rfl⟩) hHeld ?_
              (try simp only [Act.put]); (try simp only [List.setIfInBounds_toArray]); (try simp only [List.set_cons_succ]); (try simp only [List.set_cons_zero])
              refine wpAnyH_take (i := 46) opAt46 (by kernel_rfl) (by kernel_rfl) (by kernel_rfl) (fun _ _ _ h => h) (Or.inr ⟨by rfl, rfl⟩) hHeld ?_
              (try simp only [Act.put]); (try simp only [List.setIfInBounds_toArray]); (try simp only [List.set_cons_succ]); (try simp only [List.set_cons_zero])
              refine wpAnyH_take (i := 47) opAt47 (by kernel_rfl) (by kernel_rfl) (by kernel_rfl) (fun _ _ _ h => h) (Or.inr ⟨by rfl, rfl⟩) hHeld ?_
              (try simp only [Act.put]); (try simp only [List.setIfInBounds_toArray]); (try simp only [List.set_cons_succ]); (try simp only [List.set_cons_zero])
              refine wpAnyH_take (i := 48) opAt48 (by kernel_rfl) (by kernel_rfl) (by kernel_rfl) (fun _ _ _ h => h) (Or.inr ⟨by rfl, rfl⟩) hHeld ?_
              (try simp only [Act.put]); (try simp only [List.setIfInBounds_toArray]); (try simp only [List.set_cons_succ]); (try simp only [List.set_cons_zero])
              refine wpAnyH_take (i := 49) opAt49 (by kernel_rfl) (by kernel_rfl) (by kernel_rfl) (fun _ _ _ h => h) (Or.inr ⟨by rfl, rfl⟩) hHeld ?_
              (try simp only [Act.put]); (try simp only [List.setIfInBounds_toArray]); (try simp only [List.set_cons_succ]); (try simp only [List.set_cons_zero])
              refine wpAnyH_take (i := 50) (v := ?_) opAt50 (by kernel_rfl) (by kernel_rfl) (by kernel_rfl) (fun _ _ _ h => h) (Or.inl ⟨by rfl, ?_⟩) hHeld ?_
              case refine_2 => (intro w hSw; (try dsimp only at hSw); go_simp; all_goals (with_reducible rfl))
              (try simp only [Act.put]); (try simp only [List.setIfInBounds_toArray]); (try simp only [List.set_cons_succ]); (try simp only [List.set_cons_zero])
              refine wpAnyH_take (i := 51) (v := ?_) opAt51 (by kernel_rfl) (by kernel_rfl) (by kernel_rfl) (fun _ _ _ h => h) (Or.inl ⟨by rfl, ?_⟩) hHeld ?_
              case refine_2 => (intro w hSw; (try dsimp only at hSw); go_simp; all_goals (with_reducible rfl))
              (try simp only [Act.put]); (try simp only [List.setIfInBounds_toArray]); (try simp only [List.set_cons_succ]); (try simp only [List.set_cons_zero])
              refine wpAnyH_done (by kernel_rfl) ?_ _
              have KK6 := Lib.hid (KK.out.trans (keptFF ((Kept.refl (fun _ => False) wr).drew) k6) (fun _ _ f => f) (fun _ _ f => f) : Kept (fun _ => False) w5 w6)
              have O6 := Lib.hid (own_kept OW.out (keptFF ((Kept.refl (fun _ => False) wr).drew) k6) (fun _ _ f => f))
              obtain ⟨q0, q1, q2, q3, q4, q5, q6, q7⟩ := hHeld
              clear k6
              go_wp2_with fail
              refine (E2.out _).mono ?_
              rintro e w7 ⟨rfl, k7⟩
              have K7 := Lib.hid (KK6.out.trans k7 (fun _ _ f => f) (fun _ _ f => f) : Kept (fun _ => False) w5 w7)
              have O7 := Lib.hid (own_kept O6.out k7 (fun _ _ f => f))
              have q0 := k7.cell q0 (fun f => f)
              have q1 := k7.cell q1 (fun f => f)
              have q2 := k7.cell q2 (fun f => f)
              have q3 := k7.cell q3 (fun f => f)
              have q4 := k7.cell q4 (fun f => f)
              have q5 := k7.cell q5 (fun f => f)
              have q6 := k7.cell q6 (fun f => f)
              have q7 := k7.cell q7 (fun f => f)
              clear k7
              cases be with
              | true =>
                go_wp2
                go_roundg (R2.length - i - 1)
                case measure => have := JI.out; omega
                case rel =>
                  have e := live_take (now + more) R2 HX.out
                  have e1 : liveF (now + more) [x] = [] := by unfold liveF; simp [BE.out]
                  rw [e1, List.append_nil] at e
                  exact ⟨i + 1, by have := JI.out; omega, by go_num, ⟨wo, wc, by rw [e, LN.out]⟩, by rw [e, LN.out]; exact O7.out, K7.out⟩
              | false =>
                go_wp2_with (at_builtin; refine wpList_append_own _ rfl _ _ 27 rfl w5.heap.size 37 i0 _ 8 88 Try.underlying27 hi0 hz0 hz1 hz2 rfl (by decide) _ _ _ rfl (own_kept O7.out ((Kept.refl (fun _ => False) w7).alloc _) (fun _ _ f => f)) ⟨w7.heap.size, 0, none⟩ 1 1 x.cells rfl rfl (World.news_of_block (heap_alloc_new w7 _)) ?qa ?qb ?qc ?qd ?_)
                case qa => intro u hu; simp [Spn.cells] at hu; rcases hu with rfl | rfl | rfl | rfl | rfl | rfl | rfl | rfl <;> rfl
                case qb => unfold maxLen; omega
                case qc => omega
                case qd => have := K7.out.size; simp; omega
                intro v' w8 hown hgrow hnil
                have K8 := Lib.hid (((K7.out.alloc (Obj.cells #[.int .i64 x.tr, .int .i64 x.id, .int .i64 x.pa, .string x.se, .string x.ho, .int .i64 x.st, .int .i64 x.du, .string x.no] 37)) : Kept (fun _ => False) w5 _).grown hgrow (fun k hk hlt => by have := own_from O7.out hk; omega))
                have O8 := Lib.hid hown
                obtain ⟨ao8, cap8, rfl⟩ := own_slice hown
                clear hown hgrow hnil q0 q1 q2 q3 q4 q5 q6 q7
                go_wp2
                go_roundg (R2.length - i - 1)
                case measure => have := JI.out; omega
                case rel =>
                  have e := live_take (now + more) R2 HX.out
                  have e1 : liveF (now + more) [x] = [x] := by unfold liveF; simp [BE.out]
                  rw [e1] at e
                  have e2 : (liveF (now + more) (R2.take i) ++ [x]).length = n + 1 := by rw [List.length_append, LN.out]; rfl
                  have e3 : cellsS (liveF (now + more) (R2.take i) ++ [x]) = cellsS (liveF (now + more) (R2.take i)) ++ x.cells := by rw [cellsS_append]; simp [cellsS]
                  exact ⟨i + 1, by have := JI.out; omega, by go_num, ⟨ao8, cap8, by rw [e, e2]⟩, by rw [e, e2, e3]; exact O8.out, K8.out⟩
            · obtain ⟨j, hj⟩ : ∃ j, i = j + 1 := ⟨i - 1, by omega⟩
              obtain ⟨y, hy⟩ : ∃ y, R2[j]? = some y := ⟨_, List.getElem?_eq_getElem (by omega)⟩
              have hlt2 := strict_step ST.out hy (by rw [← hj]; exact hx)
              obtain ⟨p0, p1, _, _, _, _, _, _⟩ := ReadsS.at (fun j u hu => KK.out.cell (hc j u hu) (fun f => f)) hy
              have z1 : (0 : Int) < (i : Int) := by omega
              have z2 : IntKind.i64.wrap ((i : Int) - 1) = (j : Int) := by rw [IntWalk.i64_in _ (by omega)]; omega
              have z3 : (0 : Int) ≤ (j : Int) := by omega
              have z4 : (j : Int) < (R2.length : Int) := by omega
              unfold keyLt at hlt2
              have c1 : ¬ x.tr < y.tr := by omega
              clear hx hbe hn xl xn xmem hz hc hj hy
              by_cases c2 : y.tr = x.tr
              · have c3 : ¬ x.id ≤ y.id := by omega
                clear hlt2
                go_wp2
                have z9 : (0 : Int) < (i : Int) := by omega
                have n9 : 0 < i := by omega
                have c9 : ¬ x.tr < y.tr := by omega
                have c8 : ¬ x.id ≤ y.id := by omega
                refine wp_region_held_drew (S := (fun w' => w'.cell? ⟨g1, o1 + i * 8, none⟩ = some (.int .i64 x.tr) ∧ w'.cell? ⟨g1, o1 + i * 8 + 1, none⟩ = some (.int .i64 x.id) ∧ w'.cell? ⟨g1, o1 + i * 8 + 2, none⟩ = some (.int .i64 x.pa) ∧ w'.cell? ⟨g1, o1 + i * 8 + 3, none⟩ = some (.string x.se) ∧ w'.cell? ⟨g1, o1 + i * 8 + 4, none⟩ = some (.string x.ho) ∧ w'.cell? ⟨g1, o1 + i * 8 + 5, none⟩ = some (.int .i64 x.st) ∧ w'.cell? ⟨g1, o1 + i * 8 + 6, none⟩ = some (.int .i64 x.du) ∧ w'.cell? ⟨g1, o1 + i * 8 + 7, none⟩ = some (.string x.no) ∧ w'.cell? ⟨g1, o1 + j * 8, none⟩ = some (.int .i64 y.tr) ∧ w'.cell? ⟨g1, o1 + j * 8 + 1, none⟩ = some (.int .i64 y.id))) (by kernel_rfl) ?_ (fun hHeld => ?_)
                · exact ⟨q0, q1, q2, q3, q4, q5, q6, q7, p0, p1⟩
                refine wpAnyH_take (i := 0) (v := ?_) opAt0 (by kernel_rfl) (by kernel_rfl) (by kernel_rfl) (fun _ _ _ h => h) (Or.inl ⟨by rfl, ?_⟩) hHeld ?_
                case refine_2 => (intro w hSw; (try dsimp only at hSw); go_simp; all_goals (with_reducible rfl))
                (try simp only [Act.put]); (try simp only [List.setIfInBounds_toArray]); (try simp only [List.set_cons_succ]); (try simp only [List.set_cons_zero])
                refine wpAnyH_take (i := 1) (v := ?_) opAt1 (by kernel_rfl) (by kernel_rfl) (by kernel_rfl) (fun _ _ _ h => h) (Or.inl ⟨by rfl, ?_⟩) hHeld ?_
                case refine_2 => (intro w hSw; (try dsimp only at hSw); go_simp; all_goals (with_reducible rfl))
                (try simp only [Act.put]); (try simp only [List.setIfInBounds_toArray]); (try simp only [List.set_cons_succ]); (try simp only [List.set_cons_zero])
                refine wpAnyH_take (i := 2) (v := ?_) opAt2 (by kernel_rfl) (by kernel_rfl) (by kernel_rfl) (fun _ _ _ h => h) (Or.inl ⟨by rfl, ?_⟩) hHeld ?_
                case refine_2 => (intro w hSw; (try dsimp only at hSw); go_simp; all_goals (with_reducible rfl))
                (try simp only [Act.put]); (try simp only [List.setIfInBounds_toArray]); (try simp only [List.set_cons_succ]); (try simp only [List.set_cons_zero])
                refine wpAnyH_take (i := 3) (v := ?_) opAt3 (by kernel_rfl) (by kernel_rfl) (by kernel_rfl) (fun _ _ _ h => h) (Or.inl ⟨by rfl, ?_⟩) hHeld ?_
                case refine_2 => (intro w hSw; (try dsimp only at hSw); go_simp; all_goals (with_reducible rfl))
                (try simp only [Act.put]); (try simp only [List.setIfInBounds_toArray]); (try simp only [List.set_cons_succ]); (try simp only [List.set_cons_zero])
                refine wpAnyH_take (i := 4) (v := ?_) opAt4 (by kernel_rfl) (by kernel_rfl) (by kernel_rfl) (fun _ _ _ h => h) (Or.inl ⟨by rfl, ?_⟩) hHeld ?_
                case refine_2 => (intro w hSw; (try dsimp only at hSw); go_simp; all_goals (with_reducible rfl))
                (try simp only [Act.put]); (try simp only [List.setIfInBounds_toArray]); (try simp only [List.set_cons_succ]); (try simp only [List.set_cons_zero])
                refine wpAnyH_ready (rs := [5]) (by kernel_rfl) (by simp) ?_
                refine AllReadyH.cons opAt5 (fun K hK => ?_) AllReadyH.nil
                go_simp
                go_at_call 12; refine (E1.out _).mono ?_; rintro e w6 ⟨rfl, k6⟩; dsimp only
                refine hK.out _ _ ?_ (fun hHeld => ?_)
                · exact ⟨k6.cell hHeld.1 (fun f => f), k6.cell hHeld.2.1 (fun f => f), k6.cell hHeld.2.2.1 (fun f => f), k6.cell hHeld.2.2.2.1 (fun f => f), k6.cell hHeld.2.2.2.2.1 (fun f => f), k6.cell hHeld.2.2.2.2.2.1 (fun f => f), k6.cell hHeld.2.2.2.2.2.2.1 (fun f => f), k6.cell hHeld.2.2.2.2.2.2.2.1 (fun f => f), k6.cell hHeld.2.2.2.2.2.2.2.2.1 (fun f => f), k6.cell hHeld.2.2.2.2.2.2.2.2.2 (fun f => f)⟩
                clear hK K
                (try simp only [Act.put]); (try simp only [List.setIfInBounds_toArray]); (try simp only [List.set_cons_succ]); (try simp only [List.set_cons_zero])
                refine wpAnyH_take (i := 6) (v := ?_) opAt6 (by kernel_rfl) (by kernel_rfl) (by kernel_rfl) (fun _ _ _ h => h) (Or.inl ⟨by rfl, ?_⟩) hHeld ?_
                case refine_2 => (intro w hSw; (try dsimp only at hSw); go_simp; all_goals (with_reducible rfl))
                (try simp only [Act.put]); (try simp only [List.setIfInBounds_toArray]); (try simp only [List.set_cons_succ]); (try simp only [List.set_cons_zero])
                refine wpAnyH_take (i := 7) (v := ?_) opAt7 (by kernel_rfl) (by kernel_rfl) (by kernel_rfl) (fun _ _ _ h => h) (Or.inl ⟨by rfl, ?_⟩) hHeld ?_
                case refine_2 => (intro w hSw; (try dsimp only at hSw); go_simp; all_goals (with_reducible rfl))
                (try simp only [Act.put]); (try simp only [List.setIfInBounds_toArray]); (try simp only [List.set_cons_succ]); (try simp only [List.set_cons_zero])
                refine wpAnyH_take (i := 8) (v := ?_) opAt8 (by kernel_rfl) (by kernel_rfl) (by kernel_rfl) (fun _ _ _ h => h) (Or.inl ⟨by rfl, ?_⟩) hHeld ?_
                case refine_2 => (intro w hSw; (try dsimp only at hSw); go_simp; all_goals (with_reducible rfl))
                (try simp only [Act.put]); (try simp only [List.setIfInBounds_toArray]); (try simp only [List.set_cons_succ]); (try simp only [List.set_cons_zero])
                refine wpAnyH_take (i := 9) (v := ?_) opAt9 (by kernel_rfl) (by kernel_rfl) (by kernel_rfl) (fun _ _ _ h => h) (Or.inl ⟨by rfl, ?_⟩) hHeld ?_
                case refine_2 => (intro w hSw; (try dsimp only at hSw); go_simp; all_goals (with_reducible rfl))
                (try simp only [Act.put]); (try simp only [List.setIfInBounds_toArray]); (try simp only [List.set_cons_succ]); (try simp only [List.set_cons_zero])
                refine wpAnyH_take (i := 10) (v := ?_) opAt10 (by kernel_rfl) (by kernel_rfl) (by kernel_rfl) (fun _ _ _ h => h) (Or.inl ⟨by rfl, ?_⟩) hHeld ?_
                case refine_2 => (intro w hSw; (try dsimp only at hSw); go_simp; all_goals (with_reducible rfl))
                (try simp only [Act.put]); (try simp only [List.setIfInBounds_toArray]); (try simp only [List.set_cons_succ]); (try simp only [List.set_cons_zero])
                refine wpAnyH_take (i := 11) (v := ?_) opAt11 (by kernel_rfl) (by kernel_rfl) (by kernel_rfl) (fun _ _ _ h => h) (Or.inl ⟨by rfl, ?_⟩) hHeld ?_
                case refine_2 => (intro w hSw; (try dsimp only at hSw); go_simp; all_goals (with_reducible rfl))
                (try simp only [Act.put]); (try simp only [List.setIfInBounds_toArray]); (try simp only [List.set_cons_succ]); (try simp only [List.set_cons_zero])
                refine wpAnyH_take (i := 12) (v := ?_) opAt12 (by kernel_rfl) (by kernel_rfl) (by kernel_rfl) (fun _ _ _ h => h) (Or.inl ⟨by rfl, ?_⟩) hHeld ?_
                case refine_2 => (intro w hSw; (try dsimp only at hSw); go_simp; all_goals (with_reducible rfl))
                (try simp only [Act.put]); (try simp only [List.setIfInBounds_toArray]); (try simp only [List.set_cons_succ]); (try simp only [List.set_cons_zero])
                refine wpAnyH_take (i := 13) (v := ?_) opAt13 (by kernel_rfl) (by kernel_rfl) (by kernel_rfl) (fun _ _ _ h => h) (Or.inl ⟨by rfl, ?_⟩) hHeld ?_
                case refine_2 => (intro w hSw; (try dsimp only at hSw); go_simp; all_goals (with_reducible rfl))
                (try simp only [Act.put]); (try simp only [List.setIfInBounds_toArray]); (try simp only [List.set_cons_succ]); (try simp only [List.set_cons_zero])
                refine wpAnyH_take (i := 14) (v := ?_) opAt14 (by kernel_rfl) (by kernel_rfl) (by kernel_rfl) (fun _ _ _ h => h) (Or.inl ⟨by rfl, ?_⟩) hHeld ?_
                case refine_2 => (intro w hSw; (try dsimp only at hSw); go_simp; all_goals (with_reducible rfl))
                (try simp only [Act.put]); (try simp only [List.setIfInBounds_toArray]); (try simp only [List.set_cons_succ]); (try simp only [List.set_cons_zero])
                refine wpAnyH_take (i := 15) (v := ?_) opAt15 (by kernel_rfl) (by kernel_rfl) (by kernel_rfl) (fun _ _ _ h => h) (Or.inl ⟨by rfl, ?_⟩) hHeld ?_
                case refine_2 => (intro w hSw; (try dsimp only at hSw); go_simp; all_goals (with_reducible rfl))
                (try simp only [Act.put]); (try simp only [List.setIfInBounds_toArray]); (try simp only [List.set_cons_succ]); (try simp only [List.set_cons_zero])
                refine wpAnyH_take (i := 16) (v := ?_) opAt16 (by kernel_rfl) (by kernel_rfl) (by kernel_rfl) (fun _ _ _ h => h) (Or.inl ⟨by rfl, ?_⟩) hHeld ?_
                case refine_2 => (intro w hSw; (try dsimp only at hSw); go_simp; all_goals (with_reducible rfl))
                (try simp only [Act.put]); (try simp only [List.setIfInBounds_toArray]); (try simp only [List.set_cons_succ]); (try simp only [List.set_cons_zero])
                refine wpAnyH_take (i := 17) (v := ?_) opAt17 (by kernel_rfl) (by kernel_rfl) (by kernel_rfl) (fun _ _ _ h => h) (Or.inl ⟨by rfl, ?_⟩) hHeld ?_
                case refine_2 => (intro w hSw; (try dsimp only at hSw); go_simp; all_goals (with_reducible rfl))
                (try simp only [Act.put]); (try simp only [List.setIfInBounds_toArray]); (try simp only [List.set_cons_succ]); (try simp only [List.set_cons_zero])
                refine wpAnyH_take (i := 18) (v := ?_) opAt18 (by kernel_rfl) (by kernel_rfl) (by kernel_rfl) (fun _ _ _ h => h) (Or.inl ⟨by rfl, ?_⟩) hHeld ?_
                case refine_2 => (intro w hSw; (try dsimp only at hSw); go_simp; all_goals (with_reducible rfl))
                (try simp only [Act.put]); (try simp only [List.setIfInBounds_toArray]); (try simp only [List.set_cons_succ]); (try simp only [List.set_cons_zero])
                refine wpAnyH_take (i := 19) (v := ?_) opAt19 (by kernel_rfl) (by kernel_rfl) (by kernel_rfl) (fun _ _ _ h => h) (Or.inl ⟨by rfl, ?_⟩) hHeld ?_
                case refine_2 => (intro w hSw; (try dsimp only at hSw); go_simp; all_goals (with_reducible rfl))
                (try simp only [Act.put]); (try simp only [List.setIfInBounds_toArray]); (try simp only [List.set_cons_succ]); (try simp only [List.set_cons_zero])
                refine wpAnyH_take (i := 20) (v := ?_) opAt20 (by kernel_rfl) (by kernel_rfl) (by kernel_rfl) (fun _ _ _ h => h) (Or.inl ⟨by rfl, ?_⟩) hHeld ?_
                case refine_2 => (intro w hSw; (try dsimp only at hSw); go_simp; all_goals (with_reducible rfl))
                (try simp only [Act.put]); (try simp only [List.setIfInBounds_toArray]); (try simp only [List.set_cons_succ]); (try simp only [List.set_cons_zero])
                refine wpAnyH_take (i := 21) (v := ?_) opAt21 (by kernel_rfl) (by kernel_rfl) (by kernel_rfl) (fun _ _ _ h => h) (Or.inl ⟨by rfl, ?_⟩) hHeld ?_
                case refine_2 => (intro w hSw; (try dsimp only at hSw); go_simp; all_goals (with_reducible rfl))
                (try simp only [Act.put]); (try simp only [List.setIfInBounds_toArray]); (try simp only [List.set_cons_succ]); (try simp only [List.set_cons_zero])
                refine wpAnyH_take (i := 22) (v := ?_) opAt22 (by kernel_rfl) (by kernel_rfl) (by kernel_rfl) (fun _ _ _ h => h) (Or.inl ⟨by rfl, ?_⟩) hHeld ?_
                case refine_2 => (intro w hSw; (try dsimp only at hSw); go_simp; all_goals (with_reducible rfl))
                (try simp only [Act.put]); (try simp only [List.setIfInBounds_toArray]); (try simp only [List.set_cons_succ]); (try simp only [List.set_cons_zero])
                refine wpAnyH_take (i := 23) (v := ?_) opAt23 (by kernel_rfl) (by kernel_rfl) (by kernel_rfl) (fun _ _ _ h => h) (Or.inl ⟨by rfl, ?_⟩) hHeld ?_
                case refine_2 => (intro w hSw; (try dsimp only at hSw); go_simp; all_goals (with_reducible rfl))
                (try simp only [Act.put]); (try simp only [List.setIfInBounds_toArray]); (try simp only [List.set_cons_succ]); (try simp only [List.set_cons_zero])
                refine wpAnyH_take (i := 24) (v := ?_) opAt24 (by kernel_rfl) (by kernel_rfl) (by kernel_rfl) (fun _ _ _ h => h) (Or.inl ⟨by rfl, ?_⟩) hHeld ?_
                case refine_2 => (intro w hSw; (try dsimp only at hSw); go_simp; all_goals (with_reducible rfl))
                (try simp only [Act.put]); (try simp only [List.setIfInBounds_toArray]); (try simp only [List.set_cons_succ]); (try simp only [List.set_cons_zero])
                refine wpAnyH_take (i := 25) (v := ?_) opAt25 (by kernel_rfl) (by kernel_rfl) (by kernel_rfl) (fun _ _ _ h => h) (Or.inl ⟨by rfl, ?_⟩) hHeld ?_
                case refine_2 => (intro w hSw; (try dsimp only at hSw); go_simp; all_goals (with_reducible rfl))
                (try simp only [Act.put]); (try simp only [List.setIfInBounds_toArray]); (try simp only [List.set_cons_succ]); (try simp only [List.set_cons_zero])
                refine wpAnyH_take (i := 26) (v := ?_) opAt26 (by kernel_rfl) (by kernel_rfl) (by kernel_rfl) (fun _ _ _ h => h) (Or.inl ⟨by rfl, ?_⟩) hHeld ?_
                case refine_2 => (intro w hSw; (try dsimp only at hSw); go_simp; all_goals (with_reducible rfl))
                (try simp only [Act.put]); (try simp only [List.setIfInBounds_toArray]); (try simp only [List.set_cons_succ]); (try simp only [List.set_cons_zero])
                refine wpAnyH_take (i := 27) (v := ?_) opAt27 (by kernel_rfl) (by kernel_rfl) (by kernel_rfl) (fun _ _ _ h => h) (Or.inl ⟨by rfl, ?_⟩) hHeld ?_
                case refine_2 => (intro w hSw; (try dsimp only at hSw); go_simp; all_goals (with_reducible rfl))
                (try simp only [Act.put]); (try simp only [List.setIfInBounds_toArray]); (try simp only [List.set_cons_succ]); (try simp only [List.set_cons_zero])
                refine wpAnyH_take (i := 28) (v := ?_) opAt28 (by kernel_rfl) (by kernel_rfl) (by kernel_rfl) (fun _ _ _ h => h) (Or.inl ⟨by rfl, ?_⟩) hHeld ?_
                case refine_2 => (intro w hSw; (try dsimp only at hSw); go_simp; all_goals (with_reducible rfl))
                (try simp only [Act.put]); (try simp only [List.setIfInBounds_toArray]); (try simp only [List.set_cons_succ]); (try simp only [List.set_cons_zero])
                refine wpAnyH_take (i := 29) (v := ?_) opAt29 (by kernel_rfl) (by kernel_rfl) (by kernel_rfl) (fun _ _ _ h => h) (Or.inl ⟨by rfl, ?_⟩) hHeld ?_
                case refine_2 => (intro w hSw; (try dsimp only at hSw); go_simp; all_goals (with_reducible rfl))
                (try simp only [Act.put]); (try simp only [List.setIfInBounds_toArray]); (try simp only [List.set_cons_succ]); (try simp only [List.set_cons_zero])
                refine wpAnyH_take (i := 30) (v := ?_) opAt30 (by kernel_rfl) (by kernel_rfl) (by kernel_rfl) (fun _ _ _ h => h) (Or.inl ⟨by rfl, ?_⟩) hHeld ?_
                case refine_2 => (intro w hSw; (try dsimp only at hSw); go_simp; all_goals (with_reducible rfl))
                (try simp only [Act.put]); (try simp only [List.setIfInBounds_toArray]); (try simp only [List.set_cons_succ]); (try simp only [List.set_cons_zero])
                refine wpAnyH_take (i := 31) (v := ?_) opAt31 (by kernel_rfl) (by kernel_rfl) (by kernel_rfl) (fun _ _ _ h => h) (Or.inl ⟨by rfl, ?_⟩) hHeld ?_
                case refine_2 => (intro w hSw; (try dsimp only at hSw); go_simp; all_goals (with_reducible rfl))
                (try simp only [Act.put]); (try simp only [List.setIfInBounds_toArray]); (try simp only [List.set_cons_succ]); (try simp only [List.set_cons_zero])
                refine wpAnyH_take (i := 32) (v := ?_) opAt32 (by kernel_rfl) (by kernel_rfl) (by kernel_rfl) (fun _ _ _ h => h) (Or.inl ⟨by rfl, ?_⟩) hHeld ?_
                case refine_2 => (intro w hSw; (try dsimp only at hSw); go_simp; all_goals (with_reducible rfl))
                (try simp only [Act.put]); (try simp only [List.setIfInBounds_toArray]); (try simp only [List.set_cons_succ]); (try simp only [List.set_cons_zero])
                refine wpAnyH_take (i := 33) (v := ?_) opAt33 (by kernel_rfl) (by kernel_rfl) (by kernel_rfl) (fun _ _ _ h => h) (Or.inl ⟨by rfl, ?_⟩) hHeld ?_
                case refine_2 => (intro w hSw; (try dsimp only at hSw); go_simp; all_goals (with_reducible rfl))
                (try simp only [Act.put]); (try simp only [List.setIfInBounds_toArray]); (try simp only [List.set_cons_succ]); (try simp only [List.set_cons_zero])
                refine wpAnyH_take (i := 34) (v := ?_) opAt34 (by kernel_rfl) (by kernel_rfl) (by kernel_rfl) (fun _ _ _ h => h) (Or.inl ⟨by rfl, ?_⟩) hHeld ?_
                case refine_2 => (intro w hSw; (try dsimp only at hSw); go_simp; all_goals (with_reducible rfl))
                (try simp only [Act.put]); (try simp only [List.setIfInBounds_toArray]); (try simp only [List.set_cons_succ]); (try simp only [List.set_cons_zero])
                refine wpAnyH_take (i := 35) (v := ?_) opAt35 (by kernel_rfl) (by kernel_rfl) (by kernel_rfl) (fun _ _ _ h => h) (Or.inl ⟨by rfl, ?_⟩) hHeld ?_
                case refine_2 => (intro w hSw; (try dsimp only at hSw); go_simp; all_goals (with_reducible rfl))
                (try simp only [Act.put]); (try simp only [List.setIfInBounds_toArray]); (try simp only [List.set_cons_succ]); (try simp only [List.set_cons_zero])
                refine wpAnyH_take (i := 36) (v := ?_) opAt36 (by kernel_rfl) (by kernel_rfl) (by kernel_rfl) (fun _ _ _ h => h) (Or.inl ⟨by rfl, ?_⟩) hHeld ?_
                case refine_2 => (intro w hSw; (try dsimp only at hSw); go_simp; all_goals (with_reducible rfl))
                (try simp only [Act.put]); (try simp only [List.setIfInBounds_toArray]); (try simp only [List.set_cons_succ]); (try simp only [List.set_cons_zero])
                refine wpAnyH_take (i := 37) (v := ?_) opAt37 (by kernel_rfl) (by kernel_rfl) (by kernel_rfl) (fun _ _ _ h => h) (Or.inl ⟨by rfl, ?_⟩) hHeld ?_
                case refine_2 => (intro w hSw; (try dsimp only at hSw); go_simp; all_goals (with_reducible rfl))
                (try simp only [Act.put]); (try simp only [List.setIfInBounds_toArray]); (try simp only [List.set_cons_succ]); (try simp only [List.set_cons_zero])
                refine wpAnyH_take (i := 38) (v := ?_) opAt38 (by kernel_rfl) (by kernel_rfl) (by kernel_rfl) (fun _ _ _ h => h) (Or.inl ⟨by rfl, ?_⟩) hHeld ?_
                case refine_2 => (intro w hSw; (try dsimp only at hSw); go_simp; all_goals (with_reducible rfl))
                (try simp only [Act.put]); (try simp only [List.setIfInBounds_toArray]); (try simp only [List.set_cons_succ]); (try simp only [List.set_cons_zero])
                refine wpAnyH_take (i := 39) (v := ?_) opAt39 (by kernel_rfl) (by kernel_rfl) (by kernel_rfl) (fun _ _ _ h => h) (Or.inl ⟨by rfl, ?_⟩) hHeld ?_
                case refine_2 => (intro w hSw; (try dsimp only at hSw); go_simp; all_goals (with_reducible rfl))
                (try simp only [Act.put]); (try simp only [List.setIfInBounds_toArray]); (try simp only [List.set_cons_succ]); (try simp only [List.set_cons_zero])
                refine wpAnyH_take (i := 40) (v := ?_) opAt40 (by kernel_rfl) (by kernel_rfl) (by kernel_rfl) (fun _ _ _ h => h) (Or.inl ⟨by rfl, ?_⟩) hHeld ?_
                case refine_2 => (intro w hSw; (try dsimp only at hSw); go_simp; all_goals (with_reducible rfl))
                (try simp only [Act.put]); (try simp only [List.setIfInBounds_toArray]); (try simp only [List.set_cons_succ]); (try simp only [List.set_cons_zero])
                refine wpAnyH_take (i := 41) (v := ?_) opAt41 (by kernel_rfl) (by kernel_rfl) (by kernel_rfl) (fun _ _ _ h => h) (Or.inl ⟨by rfl, ?_⟩) hHeld ?_
                case refine_2 => (intro w hSw; (try dsimp only at hSw); go_simp; all_goals (with_reducible rfl))
                (try simp only [Act.put]); (try simp only [List.setIfInBounds_toArray]); (try simp only [List.set_cons_succ]); (try simp only [List.set_cons_zero])
                refine wpAnyH_take (i := 42) (v := ?_) opAt42 (by kernel_rfl) (by kernel_rfl) (by kernel_rfl) (fun _ _ _ h => h) (Or.inl ⟨by rfl, ?_⟩) hHeld ?_
                case refine_2 => (intro w hSw; (try dsimp only at hSw); go_simp; all_goals (with_reducible rfl))
                (try simp only [Act.put]); (try simp only [List.setIfInBounds_toArray]); (try simp only [List.set_cons_succ]); (try simp only [List.set_cons_zero])
                refine wpAnyH_take (i := 43) (v := ?_) opAt43 (by kernel_rfl) (by kernel_rfl) (by kernel_rfl) (fun _ _ _ h => h) (Or.inl ⟨by rfl, ?_⟩) hHeld ?_
                case refine_2 => (intro w hSw; (try dsimp only at hSw); go_simp; all_goals (with_reducible rfl))
                (try simp only [Act.put]); (try simp only [List.setIfInBounds_toArray]); (try simp only [List.set_cons_succ]); (try simp only [List.set_cons_zero])
                refine wpAnyH_take (i := 44) (v := ?_) opAt44 (by kernel_rfl) (by kernel_rfl) (by kernel_rfl) (fun _ _ _ h => h) (Or.inl ⟨by rfl, ?_⟩) hHeld ?_
                case refine_2 => (intro w hSw; (try dsimp only at hSw); go_simp; all_goals (with_reducible rfl))
                (try simp only [Act.put]); (try simp only [List.setIfInBounds_toArray]); (try simp only [List.set_cons_succ]); (try simp only [List.set_cons_zero])
                refine wpAnyH_take (i := 45) (v := ?_) opAt45 (by kernel_rfl) (by kernel_rfl) (by kernel_rfl) (fun _ _ _ h => h) (Or.inl ⟨by rfl, ?_⟩) hHeld ?_
                case refine_2 => (intro w hSw; (try dsimp only at hSw); go_simp; all_goals (with_reducible rfl))
                (try simp only [Act.put]); (try simp only [List.setIfInBounds_toArray]); (try simp only [List.set_cons_succ]); (try simp only [List.set_cons_zero])
                refine wpAnyH_take (i := 46) (v := ?_) opAt46 (by kernel_rfl) (by kernel_rfl) (by kernel_rfl) (fun _ _ _ h => h) (Or.inl ⟨by rfl, ?_⟩) hHeld ?_
                case refine_2 => (intro w hSw; (try dsimp only at hSw); go_simp; all_goals (with_reducible rfl))
                (try simp only [Act.put]); (try simp only [List.setIfInBounds_toArray]); (try simp only [List.set_cons_succ]); (try simp only [List.set_cons_zero])
                refine wpAnyH_take (i := 47) (v := ?_) opAt47 (by kernel_rfl) (by kernel_rfl) (by kernel_rfl) (fun _ _ _ h => h) (Or.inl ⟨by rfl, ?_⟩) hHeld ?_
                case refine_2 => (intro w hSw; (try dsimp only at hSw); go_simp; all_goals (with_reducible rfl))
                (try simp only [Act.put]); (try simp only [List.setIfInBounds_toArray]); (try simp only [List.set_cons_succ]); (try simp only [List.set_cons_zero])
                refine wpAnyH_take (i := 48) (v := ?_) opAt48 (by kernel_rfl) (by kernel_rfl) (by kernel_rfl) (fun _ _ _ h => h) (Or.inl ⟨by rfl, ?_⟩) hHeld ?_
                case refine_2 => (intro w hSw; (try dsimp only at hSw); go_simp; all_goals (with_reducible rfl))
                (try simp only [Act.put]); (try simp only [List.setIfInBounds_toArray]); (try simp only [List.set_cons_succ]); (try simp only [List.set_cons_zero])
                refine wpAnyH_take (i := 49) (v := ?_) opAt49 (by kernel_rfl) (by kernel_rfl) (by kernel_rfl) (fun _ _ _ h => h) (Or.inl ⟨by rfl, ?_⟩) hHeld ?_
                case refine_2 => (intro w hSw; (try dsimp only at hSw); go_simp; all_goals (with_reducible rfl))
                (try simp only [Act.put]); (try simp only [List.setIfInBounds_toArray]); (try simp only [List.set_cons_succ]); (try simp only [List.set_cons_zero])
                refine wpAnyH_take (i := 50) (v := ?_) opAt50 (by kernel_rfl) (by kernel_rfl) (by kernel_rfl) (fun _ _ _ h => h) (Or.inl ⟨by rfl, ?_⟩) hHeld ?_
                case refine_2 => (intro w hSw; (try dsimp only at hSw); go_simp; all_goals (with_reducible rfl))
                (try simp only [Act.put]); (try simp only [List.setIfInBounds_toArray]); (try simp only [List.set_cons_succ]); (try simp only [List.set_cons_zero])
                refine wpAnyH_take (i := 51) (v := ?_) opAt51 (by kernel_rfl) (by kernel_rfl) (by kernel_rfl) (fun _ _ _ h => h) (Or.inl ⟨by rfl, ?_⟩) hHeld ?_
                case refine_2 => (intro w hSw; (try dsimp only at hSw); go_simp; all_goals (with_reducible rfl))
                (try simp only [Act.put]); (try simp only [List.setIfInBounds_toArray]); (try simp only [List.set_cons_succ]); (try simp only [List.set_cons_zero])
                refine wpAnyH_done (by kernel_rfl) ?_ _
                have KK6 := Lib.hid (KK.out.trans (keptFF ((Kept.refl (fun _ => False) wr).drew) k6) (fun _ _ f => f) (fun _ _ f => f) : Kept (fun _ => False) w5 w6)
                have O6 := Lib.hid (own_kept OW.out (keptFF ((Kept.refl (fun _ => False) wr).drew) k6) (fun _ _ f => f))
                obtain ⟨q0, q1, q2, q3, q4, q5, q6, q7, p0, p1⟩ := hHeld
                clear k6
                go_wp2_with fail
                refine (E2.out _).mono ?_
                rintro e w7 ⟨rfl, k7⟩
                have K7 := Lib.hid (KK6.out.trans k7 (fun _ _ f => f) (fun _ _ f => f) : Kept (fun _ => False) w5 w7)
                have O7 := Lib.hid (own_kept O6.out k7 (fun _ _ f => f))
                have q0 := k7.cell q0 (fun f => f)
                have q1 := k7.cell q1 (fun f => f)
                have q2 := k7.cell q2 (fun f => f)
                have q3 := k7.cell q3 (fun f => f)
                have q4 := k7.cell q4 (fun f => f)
                have q5 := k7.cell q5 (fun f => f)
                have q6 := k7.cell q6 (fun f => f)
                have q7 := k7.cell q7 (fun f => f)
                clear k7
                cases be with
                | true =>
                  go_wp2
                  go_roundg (R2.length - i - 1)
                  case measure => have := JI.out; omega
                  case rel =>
                    have e := live_take (now + more) R2 HX.out
                    have e1 : liveF (now + more) [x] = [] := by unfold liveF; simp [BE.out]
                    rw [e1, List.append_nil] at e
                    exact ⟨i + 1, by have := JI.out; omega, by go_num, ⟨wo, wc, by rw [e, LN.out]⟩, by rw [e, LN.out]; exact O7.out, K7.out⟩
                | false =>
                  go_wp2_with (at_builtin; refine wpList_append_own _ rfl _ _ 27 rfl w5.heap.size 37 i0 _ 8 88 Try.underlying27 hi0 hz0 hz1 hz2 rfl (by decide) _ _ _ rfl (own_kept O7.out ((Kept.refl (fun _ => False) w7).alloc _) (fun _ _ f => f)) ⟨w7.heap.size, 0, none⟩ 1 1 x.cells rfl rfl (World.news_of_block (heap_alloc_new w7 _)) ?qa ?qb ?qc ?qd ?_)
                  case qa => intro u hu; simp [Spn.cells] at hu; rcases hu with rfl | rfl | rfl | rfl | rfl | rfl | rfl | rfl <;> rfl
                  case qb => unfold maxLen; omega
                  case qc => omega
                  case qd => have := K7.out.size; simp; omega
                  intro v' w8 hown hgrow hnil
                  have K8 := Lib.hid (((K7.out.alloc (Obj.cells #[.int .i64 x.tr, .int .i64 x.id, .int .i64 x.pa, .string x.se, .string x.ho, .int .i64 x.st, .int .i64 x.du, .string x.no] 37)) : Kept (fun _ => False) w5 _).grown hgrow (fun k hk hlt => by have := own_from O7.out hk; omega))
                  have O8 := Lib.hid hown
                  obtain ⟨ao8, cap8, rfl⟩ := own_slice hown
                  clear hown hgrow hnil q0 q1 q2 q3 q4 q5 q6 q7
                  go_wp2
                  go_roundg (R2.length - i - 1)
                  case measure => have := JI.out; omega
                  case rel =>
                    have e := live_take (now + more) R2 HX.out
                    have e1 : liveF (now + more) [x] = [x] := by unfold liveF; simp [BE.out]
                    rw [e1] at e
                    have e2 : (liveF (now + more) (R2.take i) ++ [x]).length = n + 1 := by rw [List.length_append, LN.out]; rfl
                    have e3 : cellsS (liveF (now + more) (R2.take i) ++ [x]) = cellsS (liveF (now + more) (R2.take i)) ++ x.cells := by rw [cellsS_append]; simp [cellsS]
                    exact ⟨i + 1, by have := JI.out; omega, by go_num, ⟨ao8, cap8, by rw [e, e2]⟩, by rw [e, e2, e3]; exact O8.out, K8.out⟩
              · clear hlt2
                go_wp2
                have z9 : (0 : Int) < (i : Int) := by omega
                have n9 : 0 < i := by omega
                have c9 : ¬ x.tr < y.tr := by omega
                have c7 : (y.tr == x.tr) = false := by simp; omega
                refine wp_region_held_drew (S := (fun w' => w'.cell? ⟨g1, o1 + i * 8, none⟩ = some (.int .i64 x.tr) ∧ w'.cell? ⟨g1, o1 + i * 8 + 1, none⟩ = some (.int .i64 x.id) ∧ w'.cell? ⟨g1, o1 + i * 8 + 2, none⟩ = some (.int .i64 x.pa) ∧ w'.cell? ⟨g1, o1 + i * 8 + 3, none⟩ = some (.string x.se) ∧ w'.cell? ⟨g1, o1 + i * 8 + 4, none⟩ = some (.string x.ho) ∧ w'.cell? ⟨g1, o1 + i * 8 + 5, none⟩ = some (.int .i64 x.st) ∧ w'.cell? ⟨g1, o1 + i * 8 + 6, none⟩ = some (.int .i64 x.du) ∧ w'.cell? ⟨g1, o1 + i * 8 + 7, none⟩ = some (.string x.no) ∧ w'.cell? ⟨g1, o1 + j * 8, none⟩ = some (.int .i64 y.tr) ∧ w'.cell? ⟨g1, o1 + j * 8 + 1, none⟩ = some (.int .i64 y.id))) (by kernel_rfl) ?_ (fun hHeld => ?_)
                · exact ⟨q0, q1, q2, q3, q4, q5, q6, q7, p0, p1⟩
                refine wpAnyH_take (i := 0) (v := ?_) opAt0 (by kernel_rfl) (by kernel_rfl) (by kernel_rfl) (fun _ _ _ h => h) (Or.inl ⟨by rfl, ?_⟩) hHeld ?_
                case refine_2 => (intro w hSw; (try dsimp only at hSw); go_simp; all_goals (with_reducible rfl))
                (try simp only [Act.put]); (try simp only [List.setIfInBounds_toArray]); (try simp only [List.set_cons_succ]); (try simp only [List.set_cons_zero])
                refine wpAnyH_take (i := 1) (v := ?_) opAt1 (by kernel_rfl) (by kernel_rfl) (by kernel_rfl) (fun _ _ _ h => h) (Or.inl ⟨by rfl, ?_⟩) hHeld ?_
                case refine_2 => (intro w hSw; (try dsimp only at hSw); go_simp; all_goals (with_reducible rfl))
                (try simp only [Act.put]); (try simp only [List.setIfInBounds_toArray]); (try simp only [List.set_cons_succ]); (try simp only [List.set_cons_zero])
                refine wpAnyH_take (i := 2) (v := ?_) opAt2 (by kernel_rfl) (by kernel_rfl) (by kernel_rfl) (fun _ _ _ h => h) (Or.inl ⟨by rfl, ?_⟩) hHeld ?_
                case refine_2 => (intro w hSw; (try dsimp only at hSw); go_simp; all_goals (with_reducible rfl))
                (try simp only [Act.put]); (try simp only [List.setIfInBounds_toArray]); (try simp only [List.set_cons_succ]); (try simp only [List.set_cons_zero])
                refine wpAnyH_take (i := 3) (v := ?_) opAt3 (by kernel_rfl) (by kernel_rfl) (by kernel_rfl) (fun _ _ _ h => h) (Or.inl ⟨by rfl, ?_⟩) hHeld ?_
                case refine_2 => (intro w hSw; (try dsimp only at hSw); go_simp; all_goals (with_reducible rfl))
                (try simp only [Act.put]); (try simp only [List.setIfInBounds_toArray]); (try simp only [List.set_cons_succ]); (try simp only [List.set_cons_zero])
                refine wpAnyH_take (i := 4) (v := ?_) opAt4 (by kernel_rfl) (by kernel_rfl) (by kernel_rfl) (fun _ _ _ h => h) (Or.inl ⟨by rfl, ?_⟩) hHeld ?_
                case refine_2 => (intro w hSw; (try dsimp only at hSw); go_simp; all_goals (with_reducible rfl))
                (try simp only [Act.put]); (try simp only [List.setIfInBounds_toArray]); (try simp only [List.set_cons_succ]); (try simp only [List.set_cons_zero])
                refine wpAnyH_ready (rs := [5]) (by kernel_rfl) (by simp) ?_
                refine AllReadyH.cons opAt5 (fun K hK => ?_) AllReadyH.nil
                go_simp
                go_at_call 12; refine (E1.out _).mono ?_; rintro e w6 ⟨rfl, k6⟩; dsimp only
                refine hK.out _ _ ?_ (fun hHeld => ?_)
                · exact ⟨k6.cell hHeld.1 (fun f => f), k6.cell hHeld.2.1 (fun f => f), k6.cell hHeld.2.2.1 (fun f => f), k6.cell hHeld.2.2.2.1 (fun f => f), k6.cell hHeld.2.2.2.2.1 (fun f => f), k6.cell hHeld.2.2.2.2.2.1 (fun f => f), k6.cell hHeld.2.2.2.2.2.2.1 (fun f => f), k6.cell hHeld.2.2.2.2.2.2.2.1 (fun f => f), k6.cell hHeld.2.2.2.2.2.2.2.2.1 (fun f => f), k6.cell hHeld.2.2.2.2.2.2.2.2.2 (fun f => f)⟩
                clear hK K
                (try simp only [Act.put]); (try simp only [List.setIfInBounds_toArray]); (try simp only [List.set_cons_succ]); (try simp only [List.set_cons_zero])
                refine wpAnyH_take (i := 6) (v := ?_) opAt6 (by kernel_rfl) (by kernel_rfl) (by kernel_rfl) (fun _ _ _ h => h) (Or.inl ⟨by rfl, ?_⟩) hHeld ?_
                case refine_2 => (intro w hSw; (try dsimp only at hSw); go_simp; all_goals (with_reducible rfl))
                (try simp only [Act.put]); (try simp only [List.setIfInBounds_toArray]); (try simp only [List.set_cons_succ]); (try simp only [List.set_cons_zero])
                refine wpAnyH_take (i := 7) (v := ?_) opAt7 (by kernel_rfl) (by kernel_rfl) (by kernel_rfl) (fun _ _ _ h => h) (Or.inl ⟨by rfl, ?_⟩) hHeld ?_
                case refine_2 => (intro w hSw; (try dsimp only at hSw); go_simp; all_goals (with_reducible rfl))
                (try simp only [Act.put]); (try simp only [List.setIfInBounds_toArray]); (try simp only [List.set_cons_succ]); (try simp only [List.set_cons_zero])
                refine wpAnyH_take (i := 8) (v := ?_) opAt8 (by kernel_rfl) (by kernel_rfl) (by kernel_rfl) (fun _ _ _ h => h) (Or.inl ⟨by rfl, ?_⟩) hHeld ?_
                case refine_2 => (intro w hSw; (try dsimp only at hSw); go_simp; all_goals (with_reducible rfl))
                (try simp only [Act.put]); (try simp only [List.setIfInBounds_toArray]); (try simp only [List.set_cons_succ]); (try simp only [List.set_cons_zero])
                refine wpAnyH_take (i := 9) (v := ?_) opAt9 (by kernel_rfl) (by kernel_rfl) (by kernel_rfl) (fun _ _ _ h => h) (Or.inl ⟨by rfl, ?_⟩) hHeld ?_
                case refine_2 => (intro w hSw; (try dsimp only at hSw); go_simp; all_goals (with_reducible rfl))
                (try simp only [Act.put]); (try simp only [List.setIfInBounds_toArray]); (try simp only [List.set_cons_succ]); (try simp only [List.set_cons_zero])
                refine wpAnyH_take (i := 10) (v := ?_) opAt10 (by kernel_rfl) (by kernel_rfl) (by kernel_rfl) (fun _ _ _ h => h) (Or.inl ⟨by rfl, ?_⟩) hHeld ?_
                case refine_2 => (intro w hSw; (try dsimp only at hSw); go_simp; all_goals (with_reducible rfl))
                (try simp only [Act.put]); (try simp only [List.setIfInBounds_toArray]); (try simp only [List.set_cons_succ]); (try simp only [List.set_cons_zero])
                refine wpAnyH_take (i := 11) (v := ?_) opAt11 (by kernel_rfl) (by kernel_rfl) (by kernel_rfl) (fun _ _ _ h => h) (Or.inl ⟨by rfl, ?_⟩) hHeld ?_
                case refine_2 => (intro w hSw; (try dsimp only at hSw); go_simp; all_goals (with_reducible rfl))
                (try simp only [Act.put]); (try simp only [List.setIfInBounds_toArray]); (try simp only [List.set_cons_succ]); (try simp only [List.set_cons_zero])
                refine wpAnyH_take (i := 12) (v := ?_) opAt12 (by kernel_rfl) (by kernel_rfl) (by kernel_rfl) (fun _ _ _ h => h) (Or.inl ⟨by rfl, ?_⟩) hHeld ?_
                case refine_2 => (intro w hSw; (try dsimp only at hSw); go_simp; all_goals (with_reducible rfl))
                (try simp only [Act.put]); (try simp only [List.setIfInBounds_toArray]); (try simp only [List.set_cons_succ]); (try simp only [List.set_cons_zero])
                refine wpAnyH_take (i := 13) (v := ?_) opAt13 (by kernel_rfl) (by kernel_rfl) (by kernel_rfl) (fun _ _ _ h => h) (Or.inl ⟨by rfl, ?_⟩) hHeld ?_
                case refine_2 => (intro w hSw; (try dsimp only at hSw); go_simp; all_goals (with_reducible rfl))
                (try simp only [Act.put]); (try simp only [List.setIfInBounds_toArray]); (try simp only [List.set_cons_succ]); (try simp only [List.set_cons_zero])
                refine wpAnyH_take (i := 14) (v := ?_) opAt14 (by kernel_rfl) (by kernel_rfl) (by kernel_rfl) (fun _ _ _ h => h) (Or.inl ⟨by rfl, ?_⟩) hHeld ?_
                case refine_2 => (intro w hSw; (try dsimp only at hSw); go_simp; all_goals (with_reducible rfl))
                (try simp only [Act.put]); (try simp only [List.setIfInBounds_toArray]); (try simp only [List.set_cons_succ]); (try simp only [List.set_cons_zero])
                refine wpAnyH_take (i := 15) (v := ?_) opAt15 (by kernel_rfl) (by kernel_rfl) (by kernel_rfl) (fun _ _ _ h => h) (Or.inl ⟨by rfl, ?_⟩) hHeld ?_
                case refine_2 => (intro w hSw; (try dsimp only at hSw); go_simp; all_goals (with_reducible rfl))
                (try simp only [Act.put]); (try simp only [List.setIfInBounds_toArray]); (try simp only [List.set_cons_succ]); (try simp only [List.set_cons_zero])
                refine wpAnyH_take (i := 16) (v := ?_) opAt16 (by kernel_rfl) (by kernel_rfl) (by kernel_rfl) (fun _ _ _ h => h) (Or.inl ⟨by rfl, ?_⟩) hHeld ?_
                case refine_2 => (intro w hSw; (try dsimp only at hSw); go_simp; all_goals (with_reducible rfl))
                (try simp only [Act.put]); (try simp only [List.setIfInBounds_toArray]); (try simp only [List.set_cons_succ]); (try simp only [List.set_cons_zero])
                refine wpAnyH_take (i := 17) (v := ?_) opAt17 (by kernel_rfl) (by kernel_rfl) (by kernel_rfl) (fun _ _ _ h => h) (Or.inl ⟨by rfl, ?_⟩) hHeld ?_
                case refine_2 => (intro w hSw; (try dsimp only at hSw); go_simp; all_goals (with_reducible rfl))
                (try simp only [Act.put]); (try simp only [List.setIfInBounds_toArray]); (try simp only [List.set_cons_succ]); (try simp only [List.set_cons_zero])
                refine wpAnyH_take (i := 18) (v := ?_) opAt18 (by kernel_rfl) (by kernel_rfl) (by kernel_rfl) (fun _ _ _ h => h) (Or.inl ⟨by rfl, ?_⟩) hHeld ?_
                case refine_2 => (intro w hSw; (try dsimp only at hSw); go_simp; all_goals (with_reducible rfl))
                (try simp only [Act.put]); (try simp only [List.setIfInBounds_toArray]); (try simp only [List.set_cons_succ]); (try simp only [List.set_cons_zero])
                refine wpAnyH_take (i := 19) (v := ?_) opAt19 (by kernel_rfl) (by kernel_rfl) (by kernel_rfl) (fun _ _ _ h => h) (Or.inl ⟨by rfl, ?_⟩) hHeld ?_
                case refine_2 => (intro w hSw; (try dsimp only at hSw); go_simp; all_goals (with_reducible rfl))
                (try simp only [Act.put]); (try simp only [List.setIfInBounds_toArray]); (try simp only [List.set_cons_succ]); (try simp only [List.set_cons_zero])
                refine wpAnyH_take (i := 20) (v := ?_) opAt20 (by kernel_rfl) (by kernel_rfl) (by kernel_rfl) (fun _ _ _ h => h) (Or.inl ⟨by rfl, ?_⟩) hHeld ?_
                case refine_2 => (intro w hSw; (try dsimp only at hSw); go_simp; all_goals (with_reducible rfl))
                (try simp only [Act.put]); (try simp only [List.setIfInBounds_toArray]); (try simp only [List.set_cons_succ]); (try simp only [List.set_cons_zero])
                refine wpAnyH_take (i := 21) (v := ?_) opAt21 (by kernel_rfl) (by kernel_rfl) (by kernel_rfl) (fun _ _ _ h => h) (Or.inl ⟨by rfl, ?_⟩) hHeld ?_
                case refine_2 => (intro w hSw; (try dsimp only at hSw); go_simp; all_goals (with_reducible rfl))
                (try simp only [Act.put]); (try simp only [List.setIfInBounds_toArray]); (try simp only [List.set_cons_succ]); (try simp only [List.set_cons_zero])
                refine wpAnyH_take (i := 22) (v := ?_) opAt22 (by kernel_rfl) (by kernel_rfl) (by kernel_rfl) (fun _ _ _ h => h) (Or.inl ⟨by rfl, ?_⟩) hHeld ?_
                case refine_2 => (intro w hSw; (try dsimp only at hSw); go_simp; all_goals (with_reducible rfl))
                (try simp only [Act.put]); (try simp only [List.setIfInBounds_toArray]); (try simp only [List.set_cons_succ]); (try simp only [List.set_cons_zero])
                refine wpAnyH_take (i := 23) (v := ?_) opAt23 (by kernel_rfl) (by kernel_rfl) (by kernel_rfl) (fun _ _ _ h => h) (Or.inl ⟨by rfl, ?_⟩) hHeld ?_
                case refine_2 => (intro w hSw; (try dsimp only at hSw); go_simp; all_goals (with_reducible rfl))
                (try simp only [Act.put]); (try simp only [List.setIfInBounds_toArray]); (try simp only [List.set_cons_succ]); (try simp only [List.set_cons_zero])
                refine wpAnyH_take (i := 24) (v := ?_) opAt24 (by kernel_rfl) (by kernel_rfl) (by kernel_rfl) (fun _ _ _ h => h) (Or.inl ⟨by rfl, ?_⟩) hHeld ?_
                case refine_2 => (intro w hSw; (try dsimp only at hSw); go_simp; all_goals (with_reducible rfl))
                (try simp only [Act.put]); (try simp only [List.setIfInBounds_toArray]); (try simp only [List.set_cons_succ]); (try simp only [List.set_cons_zero])
                refine wpAnyH_take (i := 25) (v := ?_) opAt25 (by kernel_rfl) (by kernel_rfl) (by kernel_rfl) (fun _ _ _ h => h) (Or.inl ⟨by rfl, ?_⟩) hHeld ?_
                case refine_2 => (intro w hSw; (try dsimp only at hSw); go_simp; all_goals (with_reducible rfl))
                (try simp only [Act.put]); (try simp only [List.setIfInBounds_toArray]); (try simp only [List.set_cons_succ]); (try simp only [List.set_cons_zero])
                refine wpAnyH_take (i := 26) (v := ?_) opAt26 (by kernel_rfl) (by kernel_rfl) (by kernel_rfl) (fun _ _ _ h => h) (Or.inl ⟨by rfl, ?_⟩) hHeld ?_
                case refine_2 => (intro w hSw; (try dsimp only at hSw); go_simp; all_goals (with_reducible rfl))
                (try simp only [Act.put]); (try simp only [List.setIfInBounds_toArray]); (try simp only [List.set_cons_succ]); (try simp only [List.set_cons_zero])
                refine wpAnyH_take (i := 27) (v := ?_) opAt27 (by kernel_rfl) (by kernel_rfl) (by kernel_rfl) (fun _ _ _ h => h) (Or.inl ⟨by rfl, ?_⟩) hHeld ?_
                case refine_2 => (intro w hSw; (try dsimp only at hSw); go_simp; all_goals (with_reducible rfl))
                (try simp only [Act.put]); (try simp only [List.setIfInBounds_toArray]); (try simp only [List.set_cons_succ]); (try simp only [List.set_cons_zero])
                refine wpAnyH_take (i := 28) (v := ?_) opAt28 (by kernel_rfl) (by kernel_rfl) (by kernel_rfl) (fun _ _ _ h => h) (Or.inl ⟨by rfl, ?_⟩) hHeld ?_
                case refine_2 => (intro w hSw; (try dsimp only at hSw); go_simp; all_goals (with_reducible rfl))
                (try simp only [Act.put]); (try simp only [List.setIfInBounds_toArray]); (try simp only [List.set_cons_succ]); (try simp only [List.set_cons_zero])
                refine wpAnyH_take (i := 29) (v := ?_) opAt29 (by kernel_rfl) (by kernel_rfl) (by kernel_rfl) (fun _ _ _ h => h) (Or.inl ⟨by rfl, ?_⟩) hHeld ?_
                case refine_2 => (intro w hSw; (try dsimp only at hSw); go_simp; all_goals (with_reducible rfl))
                (try simp only [Act.put]); (try simp only [List.setIfInBounds_toArray]); (try simp only [List.set_cons_succ]); (try simp only [List.set_cons_zero])
                refine wpAnyH_take (i := 30) (v := ?_) opAt30 (by kernel_rfl) (by kernel_rfl) (by kernel_rfl) (fun _ _ _ h => h) (Or.inl ⟨by rfl, ?_⟩) hHeld ?_
                case refine_2 => (intro w hSw; (try dsimp only at hSw); go_simp; all_goals (with_reducible rfl))
                (try simp only [Act.put]); (try simp only [List.setIfInBounds_toArray]); (try simp only [List.set_cons_succ]); (try simp only [List.set_cons_zero])
                refine wpAnyH_take (i := 31) (v := ?_) opAt31 (by kernel_rfl) (by kernel_rfl) (by kernel_rfl) (fun _ _ _ h => h) (Or.inl ⟨by rfl, ?_⟩) hHeld ?_
                case refine_2 => (intro w hSw; (try dsimp only at hSw); go_simp; all_goals (with_reducible rfl))
                (try simp only [Act.put]); (try simp only [List.setIfInBounds_toArray]); (try simp only [List.set_cons_succ]); (try simp only [List.set_cons_zero])
                refine wpAnyH_take (i := 32) (v := ?_) opAt32 (by kernel_rfl) (by kernel_rfl) (by kernel_rfl) (fun _ _ _ h => h) (Or.inl ⟨by rfl, ?_⟩) hHeld ?_
                case refine_2 => (intro w hSw; (try dsimp only at hSw); go_simp; all_goals (with_reducible rfl))
                (try simp only [Act.put]); (try simp only [List.setIfInBounds_toArray]); (try simp only [List.set_cons_succ]); (try simp only [List.set_cons_zero])
                refine wpAnyH_take (i := 33) (v := ?_) opAt33 (by kernel_rfl) (by kernel_rfl) (by kernel_rfl) (fun _ _ _ h => h) (Or.inl ⟨by rfl, ?_⟩) hHeld ?_
                case refine_2 => (intro w hSw; (try dsimp only at hSw); go_simp; all_goals (with_reducible rfl))
                (try simp only [Act.put]); (try simp only [List.setIfInBounds_toArray]); (try simp only [List.set_cons_succ]); (try simp only [List.set_cons_zero])
                refine wpAnyH_take (i := 34) (v := ?_) opAt34 (by kernel_rfl) (by kernel_rfl) (by kernel_rfl) (fun _ _ _ h => h) (Or.inl ⟨by rfl, ?_⟩) hHeld ?_
                case refine_2 => (intro w hSw; (try dsimp only at hSw); go_simp; all_goals (with_reducible rfl))
                (try simp only [Act.put]); (try simp only [List.setIfInBounds_toArray]); (try simp only [List.set_cons_succ]); (try simp only [List.set_cons_zero])
                refine wpAnyH_take (i := 35) (v := ?_) opAt35 (by kernel_rfl) (by kernel_rfl) (by kernel_rfl) (fun _ _ _ h => h) (Or.inl ⟨by rfl, ?_⟩) hHeld ?_
                case refine_2 => (intro w hSw; (try dsimp only at hSw); go_simp; all_goals (with_reducible rfl))
                (try simp only [Act.put]); (try simp only [List.setIfInBounds_toArray]); (try simp only [List.set_cons_succ]); (try simp only [List.set_cons_zero])
                refine wpAnyH_take (i := 36) opAt36 (by kernel_rfl) (by kernel_rfl) (by kernel_rfl) (fun _ _ _ h => h) (Or.inr ⟨by rfl, rfl⟩) hHeld ?_
                (try simp only [Act.put]); (try simp only [List.setIfInBounds_toArray]); (try simp only [List.set_cons_succ]); (try simp only [List.set_cons_zero])
                refine wpAnyH_take (i := 37) opAt37 (by kernel_rfl) (by kernel_rfl) (by kernel_rfl) (fun _ _ _ h => h) (Or.inr ⟨by rfl, rfl⟩) hHeld ?_
                (try simp only [Act.put]); (try simp only [List.setIfInBounds_toArray]); (try simp only [List.set_cons_succ]); (try simp only [List.set_cons_zero])
                refine wpAnyH_take (i := 38) opAt38 (by kernel_rfl) (by kernel_rfl) (by kernel_rfl) (fun _ _ _ h => h) (Or.inr ⟨by rfl, rfl⟩) hHeld ?_
                (try simp only [Act.put]); (try simp only [List.setIfInBounds_toArray]); (try simp only [List.set_cons_succ]); (try simp only [List.set_cons_zero])
                refine wpAnyH_take (i := 39) opAt39 (by kernel_rfl) (by kernel_rfl) (by kernel_rfl) (fun _ _ _ h => h) (Or.inr ⟨by rfl, rfl⟩) hHeld ?_
                (try simp only [Act.put]); (try simp only [List.setIfInBounds_toArray]); (try simp only [List.set_cons_succ]); (try simp only [List.set_cons_zero])
                refine wpAnyH_take (i := 40) opAt40 (by kernel_rfl) (by kernel_rfl) (by kernel_rfl) (fun _ _ _ h => h) (Or.inr ⟨by rfl, rfl⟩) hHeld ?_
                (try simp only [Act.put]); (try simp only [List.setIfInBounds_toArray]); (try simp only [List.set_cons_succ]); (try simp only [List.set_cons_zero])
                refine wpAnyH_take (i := 41) opAt41 (by kernel_rfl) (by kernel_rfl) (by kernel_rfl) (fun _ _ _ h => h) (Or.inr ⟨by rfl, rfl⟩) hHeld ?_
                (try simp only [Act.put]); (try simp only [List.setIfInBounds_toArray]); (try simp only [List.set_cons_succ]); (try simp only [List.set_cons_zero])
                refine wpAnyH_take (i := 42) opAt42 (by kernel_rfl) (by kernel_rfl) (by kernel_rfl) (fun _ _ _ h => h) (Or.inr ⟨by rfl, rfl⟩) hHeld ?_
                (try simp only [Act.put]); (try simp only [List.setIfInBounds_toArray]); (try simp only [List.set_cons_succ]); (try simp only [List.set_cons_zero])
                refine wpAnyH_take (i := 43) opAt43 (by kernel_rfl) (by kernel_rfl) (by kernel_rfl) (fun _ _ _ h => h) (Or.inr ⟨by rfl, rfl⟩) hHeld ?_
                (try simp only [Act.put]); (try simp only [List.setIfInBounds_toArray]); (try simp only [List.set_cons_succ]); (try simp only [List.set_cons_zero])
                refine wpAnyH_take (i := 44) opAt44 (by kernel_rfl) (by kernel_rfl) (by kernel_rfl) (fun _ _ _ h => h) (Or.inr ⟨by rfl, rfl⟩) hHeld ?_
                (try simp only [Act.put]); (try simp only [List.setIfInBounds_toArray]); (try simp only [List.set_cons_succ]); (try simp only [List.set_cons_zero])
                refine wpAnyH_take (i := 45) opAt45 (by kernel_rfl) (by kernel_rfl) (by kernel_rfl) (fun _ _ _ h => h) (Or.inr ⟨by rfl, rfl⟩) hHeld ?_
                (try simp only [Act.put]); (try simp only [List.setIfInBounds_toArray]); (try simp only [List.set_cons_succ]); (try simp only [List.set_cons_zero])
                refine wpAnyH_take (i := 46) opAt46 (by kernel_rfl) (by kernel_rfl) (by kernel_rfl) (fun _ _ _ h => h) (Or.inr ⟨by rfl, rfl⟩) hHeld ?_
                (try simp only [Act.put]); (try simp only [List.setIfInBounds_toArray]); (try simp only [List.set_cons_succ]); (try simp only [List.set_cons_zero])
                refine wpAnyH_take (i := 47) opAt47 (by kernel_rfl) (by kernel_rfl) (by kernel_rfl) (fun _ _ _ h => h) (Or.inr ⟨by rfl, rfl⟩) hHeld ?_
                (try simp only [Act.put]); (try simp only [List.setIfInBounds_toArray]); (try simp only [List.set_cons_succ]); (try simp only [List.set_cons_zero])
                refine wpAnyH_take (i := 48) (v := ?_) opAt48 (by kernel_rfl) (by kernel_rfl) (by kernel_rfl) (fun _ _ _ h => h) (Or.inl ⟨by rfl, ?_⟩) hHeld ?_
                case refine_2 => (intro w hSw; (try dsimp only at hSw); go_simp; all_goals (with_reducible rfl))
                (try simp only [Act.put]); (try simp only [List.setIfInBounds_toArray]); (try simp only [List.set_cons_succ]); (try simp only [List.set_cons_zero])
                refine wpAnyH_take (i := 49) (v := ?_) opAt49 (by kernel_rfl) (by kernel_rfl) (by kernel_rfl) (fun _ _ _ h => h) (Or.inl ⟨by rfl, ?_⟩) hHeld ?_
                case refine_2 => (intro w hSw; (try dsimp only at hSw); go_simp; all_goals (with_reducible rfl))
                (try simp only [Act.put]); (try simp only [List.setIfInBounds_toArray]); (try simp only [List.set_cons_succ]); (try simp only [List.set_cons_zero])
                refine wpAnyH_take (i := 50) (v := ?_) opAt50 (by kernel_rfl) (by kernel_rfl) (by kernel_rfl) (fun _ _ _ h => h) (Or.inl ⟨by rfl, ?_⟩) hHeld ?_
                case refine_2 => (intro w hSw; (try dsimp only at hSw); go_simp; all_goals (with_reducible rfl))
                (try simp only [Act.put]); (try simp only [List.setIfInBounds_toArray]); (try simp only [List.set_cons_succ]); (try simp only [List.set_cons_zero])
                refine wpAnyH_take (i := 51) (v := ?_) opAt51 (by kernel_rfl) (by kernel_rfl) (by kernel_rfl) (fun _ _ _ h => h) (Or.inl ⟨by rfl, ?_⟩) hHeld ?_
                case refine_2 => (intro w hSw; (try dsimp only at hSw); go_simp; all_goals (with_reducible rfl))
                (try simp only [Act.put]); (try simp only [List.setIfInBounds_toArray]); (try simp only [List.set_cons_succ]); (try simp only [List.set_cons_zero])
                refine wpAnyH_done (by kernel_rfl) ?_ _
                have KK6 := Lib.hid (KK.out.trans (keptFF ((Kept.refl (fun _ => False) wr).drew) k6) (fun _ _ f => f) (fun _ _ f => f) : Kept (fun _ => False) w5 w6)
                have O6 := Lib.hid (own_kept OW.out (keptFF ((Kept.refl (fun _ => False) wr).drew) k6) (fun _ _ f => f))
                obtain ⟨q0, q1, q2, q3, q4, q5, q6, q7, p0, p1⟩ := hHeld
                clear k6
                go_wp2_with fail
                refine (E2.out _).mono ?_
                rintro e w7 ⟨rfl, k7⟩
                have K7 := Lib.hid (KK6.out.trans k7 (fun _ _ f => f) (fun _ _ f => f) : Kept (fun _ => False) w5 w7)
                have O7 := Lib.hid (own_kept O6.out k7 (fun _ _ f => f))
                have q0 := k7.cell q0 (fun f => f)
                have q1 := k7.cell q1 (fun f => f)
                have q2 := k7.cell q2 (fun f => f)
                have q3 := k7.cell q3 (fun f => f)
                have q4 := k7.cell q4 (fun f => f)
                have q5 := k7.cell q5 (fun f => f)
                have q6 := k7.cell q6 (fun f => f)
                have q7 := k7.cell q7 (fun f => f)
                clear k7
                cases be with
                | true =>
                  go_wp2
                  go_roundg (R2.length - i - 1)
                  case measure => have := JI.out; omega
                  case rel =>
                    have e := live_take (now + more) R2 HX.out
                    have e1 : liveF (now + more) [x] = [] := by unfold liveF; simp [BE.out]
                    rw [e1, List.append_nil] at e
                    exact ⟨i + 1, by have := JI.out; omega, by go_num, ⟨wo, wc, by rw [e, LN.out]⟩, by rw [e, LN.out]; exact O7.out, K7.out⟩
                | false =>
                  go_wp2_with (at_builtin; refine wpList_append_own _ rfl _ _ 27 rfl w5.heap.size 37 i0 _ 8 88 Try.underlying27 hi0 hz0 hz1 hz2 rfl (by decide) _ _ _ rfl (own_kept O7.out ((Kept.refl (fun _ => False) w7).alloc _) (fun _ _ f => f)) ⟨w7.heap.size, 0, none⟩ 1 1 x.cells rfl rfl (World.news_of_block (heap_alloc_new w7 _)) ?qa ?qb ?qc ?qd ?_)
                  case qa => intro u hu; simp [Spn.cells] at hu; rcases hu with rfl | rfl | rfl | rfl | rfl | rfl | rfl | rfl <;> rfl
                  case qb => unfold maxLen; omega
                  case qc => omega
                  case qd => have := K7.out.size; simp; omega
                  intro v' w8 hown hgrow hnil
                  have K8 := Lib.hid (((K7.out.alloc (Obj.cells #[.int .i64 x.tr, .int .i64 x.id, .int .i64 x.pa, .string x.se, .string x.ho, .int .i64 x.st, .int .i64 x.du, .string x.no] 37)) : Kept (fun _ => False) w5 _).grown hgrow (fun k hk hlt => by have := own_from O7.out hk; omega))
                  have O8 := Lib.hid hown
                  obtain ⟨ao8, cap8, rfl⟩ := own_slice hown
                  clear hown hgrow hnil q0 q1 q2 q3 q4 q5 q6 q7
                  go_wp2
                  go_roundg (R2.length - i - 1)
                  case measure => have := JI.out; omega
                  case rel =>
                    have e := live_take (now + more) R2 HX.out
                    have e1 : liveF (now + more) [x] = [x] := by unfold liveF; simp [BE.out]
                    rw [e1] at e
                    have e2 : (liveF (now + more) (R2.take i) ++ [x]).length = n + 1 := by rw [List.length_append, LN.out]; rfl
                    have e3 : cellsS (liveF (now + more) (R2.take i) ++ [x]) = cellsS (liveF (now + more) (R2.take i)) ++ x.cells := by rw [cellsS_append]; simp [cellsS]
                    exact ⟨i + 1, by have := JI.out; omega, by go_num, ⟨ao8, cap8, by rw [e, e2]⟩, by rw [e, e2, e3]; exact O8.out, K8.out⟩
          · have i1 : ¬ (i : Int) < (R2.length : Int) := by omega
            have ei : R2.take i = R2 := List.take_of_length_le (by omega)
            rw [ei] at OW ⊢
            have WN := Lib.hid (ReadsS.of_own OW.out)
            have MO6 := Lib.hid (MO5.out.keptF KK.out)
            have K6 := Lib.hid (K5.out.trans KK.out (fun _ _ f => f) (fun _ _ f => f) : Kept (fun _ => False) w wr)
            have S3 := Lib.hid (spans_all (now + more) (by omega) (by omega) MO6.out (by omega))
            clear ei
            go_wp2_with fail
            refine S3.out.mono ?_
            rintro e w7 ⟨k7, v3, R3, rfl, r3, p3, s3⟩
            have eR : R3 = liveF (now + more) R2 := live_next HM.out (by omega) P1.out SO1.out p3 s3
            subst eR
            have SS3 := Lib.hid (same_refl w7 v3 _ _ r3 (WN.out.keptF k7) (by have := live_len (now + more) R2; omega))
            have K7 := Lib.hid (K6.out.trans k7 (fun _ _ f => f) (fun _ _ f => f) : Kept (fun _ => False) w w7)
            clear k7 p3 s3 r3
            go_wp2_with fail
            refine SS3.out.mono ?_
            rintro e w8 ⟨rfl, k8⟩
            have K8 := Lib.hid (K7.out.trans k8 (fun _ _ f => f) (fun _ _ f => f) : Kept (fun _ => False) w w8)
            clear k8
            go_wp2_with fail
            refine (lives_any w8).mono ?_
            rintro e w9 ⟨rfl, k9⟩
            have K9 := Lib.hid ((K8.out.below (fun _ _ f => f)).trans (k9.mono K8.out.size))
            clear k9
            go_wp2
            go_ret
            exact ⟨rfl, K9.out⟩
end Go.Proofs.Ytibakmchgppndaa
