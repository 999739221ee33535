/- The statements' own small functions, walked: SameCells, Great, great, count. -/
import Derived.Test.YtfhpjopdndnmgaaNewest
import Derived.Deep.QuietTactic
namespace Go.Proofs.Ytfhpjopdndnmgaa
open Go.RowKit

/-- Are two lists the same? -/
noncomputable def sameB (A B : List Cel) : Bool := @decide (A = B) (Classical.propDecidable _)
theorem sameB_true {A B : List Cel} : sameB A B = true ↔ A = B := by unfold sameB; exact @decide_eq_true_iff _ (Classical.propDecidable _)
theorem sameB_false {A B : List Cel} : sameB A B = false ↔ ¬ A = B := by unfold sameB; exact @decide_eq_false_iff_not _ (Classical.propDecidable _)

set_option maxHeartbeats 1000000 in
theorem same_any (w : World) (va vb : Value) (A B : List Cel) (ha : ReadsC w va A) (hb : ReadsC w vb B) (hl : A.length ≤ 1000) (hl2 : B.length ≤ 1000) :
    Calls Try.prog 15 #[va, vb] w fun e w' => e = .returned (.bool (sameB A B)) ∧ Kept (fun _ => False) w w' := by
  obtain ⟨ao, capa, rfl, ha⟩ := ha
  obtain ⟨bo, capb, rfl, hb⟩ := hb
  by_cases hlen : A.length = B.length
  · have HL := Lib.hid hlen; clear hlen
    have HA := Lib.hid ha; have HB := Lib.hid hb; clear ha hb
    have e1 : ((A.length : Int) != B.length) = false := by rw [HL.out]; simp
    go_enter Try.func15, Try.ntmps15
    go_wp2
    go_loopg [5] A.length (fun g t wr => ∃ k : Nat, k + g = A.length ∧ t = .int .i64 k ∧ (∃ n, wr = w.drewN n) ∧ A.take k = B.take k)
    case atStart => exact ⟨0, by omega, rfl, ⟨0, rfl⟩, rfl⟩
    case round =>
      obtain ⟨k, hk, rfl, ⟨n, rfl⟩, heq⟩ := hrel
      have hk1 : k ≤ A.length := by omega
      have J := Lib.hid hk; have EQ := Lib.hid heq
      clear hk heq
      by_cases hlt : k < A.length
      · have hltb : k < B.length := by rw [← HL.out]; exact hlt
        rcases HA.out with h0 | ⟨ga, oa, rfl, hca⟩
        · rw [h0] at hlt; simp at hlt
        rcases HB.out with h0 | ⟨gb, ob, rfl, hcb⟩
        · rw [h0] at hltb; simp at hltb
        obtain ⟨a0, a1, a2⟩ := ReadsC.at hca (List.getElem?_eq_getElem hlt)
        obtain ⟨b0, b1, b2⟩ := ReadsC.at hcb (List.getElem?_eq_getElem hltb)
        have i1 : (0 : Int) ≤ (k : Int) := by omega
        have i2 : (k : Int) < (A.length : Int) := by omega
        have i3 : (k : Int) < (B.length : Int) := by omega
        clear hca hcb
        have h2 := g36
        have hq := neq36
        cases hb : eqC A[k] B[k] with
        | true =>
          have hm := eqC_true.1 hb
          have HM := Lib.hid hm; clear hm
          go_wp2
          go_quiet (fail)
          go_wp2
          go_roundg (gk - 1)
          case measure => have := J.out; omega
          case rel => exact ⟨k + 1, by have := J.out; omega, by go_num, ⟨_, rfl⟩, by rw [List.take_succ_eq_append_getElem hlt, List.take_succ_eq_append_getElem hltb, EQ.out, HM.out]⟩
        | false =>
          have hm := eqC_false.1 hb
          have HM := Lib.hid hm; clear hm
          go_wp2
          go_quiet (fail)
          go_wp2
          go_ret
          exact ⟨ret_bool (sameB_false.2 fun e => HM.out (by subst e; rfl)).symm, by first | exact kept_drewN _ _ | (rw [World.drewN_drewN]; exact kept_drewN _ _)⟩
      · have hk2 : k = A.length := by omega
        have K2 := Lib.hid hk2; clear hk2
        go_wp2
        go_ret
        exact ⟨ret_bool (sameB_true.2 (by have := EQ.out; rw [K2.out, List.take_length, HL.out, List.take_length] at this; exact this)).symm, kept_drewN _ _⟩
  · go_enter Try.func15, Try.ntmps15
    have e1 : ((A.length : Int) != B.length) = true := by rw [bne_iff_ne]; omega
    have e2 : sameB A B = false := sameB_false.2 (fun e => hlen (by rw [e]))
    have E := Lib.hid e2
    clear e2 hlen
    go_wp2
    go_ret
    exact ⟨ret_bool E.out.symm, Kept.refl _ _⟩


/-- May a row be gone through? -/
def fitR (n : Nat) (L : List Cel) : Prop := L.length ≤ n ∧ ∀ c ∈ L, c.k.size ≤ 1000 ∧ c.v.size ≤ 1000
noncomputable def greatC (n : Nat) (L : List Cel) : Bool := @decide (¬ fitR n L) (Classical.propDecidable _)
theorem greatC_true {n : Nat} {L : List Cel} : greatC n L = true ↔ ¬ fitR n L := by unfold greatC; exact @decide_eq_true_iff _ (Classical.propDecidable _)
theorem greatC_false {n : Nat} {L : List Cel} : greatC n L = false ↔ fitR n L := by unfold greatC; rw [@decide_eq_false_iff_not _ (Classical.propDecidable _), Classical.not_not]

set_option maxHeartbeats 2000000 in
theorem greatc_any (w : World) (v : Value) (L : List Cel) (h : ReadsC w v L) (hlen : L.length ≤ 9223372036854775807) (hsz : ∀ c ∈ L, c.k.size ≤ 9223372036854775807 ∧ c.v.size ≤ 9223372036854775807) :
    Calls Try.prog 22 #[v, .int .i64 200] w fun e w' => e = .returned (.bool (greatC 200 L)) ∧ w = w' := by
  obtain ⟨ao, cap, rfl, ha⟩ := h
  have HA := Lib.hid ha; have SZ := Lib.hid hsz; clear ha hsz
  by_cases hbig : L.length ≤ 200
  · have e0 : ¬ (200 : Int) < (L.length : Int) := by omega
    go_enter Try.func22, Try.ntmps22
    go_wp2
    go_loopg [5] L.length (fun g t wr => wr = w ∧ ∃ k : Nat, k + g = L.length ∧ t = .int .i64 k ∧ ∀ c ∈ L.take k, c.k.size ≤ 1000 ∧ c.v.size ≤ 1000)
    case atStart => exact ⟨rfl, 0, by omega, rfl, fun x h => by simp at h⟩
    case round =>
      obtain ⟨rfl, k, hk, rfl, hsmall⟩ := hrel
      have hk1 : k ≤ L.length := by omega
      have J := Lib.hid hk; have SM := Lib.hid hsmall
      clear hk hsmall
      by_cases hlt : k < L.length
      · rcases HA.out with h0 | ⟨ga, oa, rfl, hca⟩
        · rw [h0] at hlt; simp at hlt
        obtain ⟨a0, _, a2⟩ := ReadsC.at hca (List.getElem?_eq_getElem hlt)
        have hz := SZ.out L[k] (List.getElem_mem hlt)
        have hz1 := hz.1
        have hz2 := hz.2
        clear hca hz
        have i1 : (0 : Int) ≤ (k : Int) := by omega
        have i2 : (k : Int) < (L.length : Int) := by omega
        obtain ⟨s1, hs1⟩ : ∃ s1, L[k].k = s1 := ⟨_, rfl⟩
        obtain ⟨s2, hs2⟩ : ∃ s2, L[k].v = s2 := ⟨_, rfl⟩
        rw [hs1] at a0 hz1; rw [hs2] at a2 hz2
        have S1 := Lib.hid hs1; have S2 := Lib.hid hs2; clear hs1 hs2
        by_cases hb1 : s1.size ≤ 1000
        · have e1 : ¬ (1000 : Int) < (s1.size : Int) := by omega
          by_cases hb2 : s2.size ≤ 1000
          · have e2 : ¬ (1000 : Int) < (s2.size : Int) := by omega
            go_wp2
            go_roundg (gk - 1)
            case measure => have := J.out; omega
            case rel => exact ⟨rfl, k + 1, by have := J.out; omega, by go_num, fun x hx => by
              rw [List.take_succ_eq_append_getElem hlt, List.mem_append] at hx
              rcases hx with hx | hx
              · exact SM.out x hx
              · simp at hx; subst hx; rw [S1.out, S2.out]; exact ⟨hb1, hb2⟩⟩
          · have e2 : (1000 : Int) < (s2.size : Int) := by omega
            go_wp2
            go_ret
            exact ⟨ret_bool (greatC_true.2 fun f => hb2 (by rw [← S2.out]; exact (f.2 _ (List.getElem_mem hlt)).2)).symm, rfl⟩
        · have e1 : (1000 : Int) < (s1.size : Int) := by omega
          go_wp2
          go_ret
          exact ⟨ret_bool (greatC_true.2 fun f => hb1 (by rw [← S1.out]; exact (f.2 _ (List.getElem_mem hlt)).1)).symm, rfl⟩
      · have hk2 : k = L.length := by omega
        have K2 := Lib.hid hk2; clear hk2
        have e3 : ¬ (k : Int) < (L.length : Int) := by omega
        go_wp2
        go_ret
        refine ⟨ret_bool (greatC_false.2 ⟨hbig, ?_⟩).symm, rfl⟩
        have := SM.out; rwa [K2.out, List.take_length] at this
  · have e0 : (200 : Int) < (L.length : Int) := by omega
    go_enter Try.func22, Try.ntmps22
    go_wp2
    go_ret
    exact ⟨ret_bool (greatC_true.2 fun f => hbig f.1).symm, rfl⟩

/-- May the rows be gone through? -/
def fitL (L : List (List Cel)) : Prop := (∀ R ∈ L, fitR 200 R) ∧ L.length ≤ 20 ∧ total L ≤ 300
noncomputable def greatB (L : List (List Cel)) : Bool := @decide (¬ fitL L) (Classical.propDecidable _)
theorem greatB_true {L : List (List Cel)} : greatB L = true ↔ ¬ fitL L := by unfold greatB; exact @decide_eq_true_iff _ (Classical.propDecidable _)
theorem greatB_false {L : List (List Cel)} : greatB L = false ↔ fitL L := by unfold greatB; rw [@decide_eq_false_iff_not _ (Classical.propDecidable _), Classical.not_not]
theorem total_take {L : List (List Cel)} {k : Nat} {R : List Cel} (h : L[k]? = some R) : total (L.take (k + 1)) = total (L.take k) + R.length := by
  rw [List.take_add_one, h]; simp [total]
theorem total_bound : ∀ (L : List (List Cel)), (∀ R ∈ L, R.length ≤ 200) → total L ≤ L.length * 200
  | [], _ => by simp [total]
  | R :: t, h => by
    have h1 := total_bound t (fun x hx => h x (List.mem_cons_of_mem _ hx))
    have h2 := h R (by simp)
    unfold total at *
    rw [List.map_cons, List.sum_cons, List.length_cons]
    omega

set_option maxHeartbeats 2000000 in
theorem great_any (w : World) (v : Value) (L : List (List Cel)) (h : ReadsR w v L) (hlen : L.length ≤ 9223372036854775807) (hfit : ∀ R ∈ L, R.length ≤ 9223372036854775807 ∧ ∀ c ∈ R, c.k.size ≤ 9223372036854775807 ∧ c.v.size ≤ 9223372036854775807) :
    Calls Try.prog 9 #[v] w fun e w' => e = .returned (.bool (greatB L)) ∧ w = w' := by
  obtain ⟨ao, cap, rfl, ha⟩ := h
  have HA := Lib.hid ha; have SZ := Lib.hid hfit; clear ha hfit
  go_enter Try.func9, Try.ntmps9
  go_wp2
  go_loopg [3, 4] L.length (fun g s t wr => wr = w ∧ ∃ k : Nat, k + g = L.length ∧ (∃ z : Int, s = .int .i64 z ∧ (k ≤ 20 → z = total (L.take k))) ∧ t = .int .i64 k ∧ ∀ R ∈ L.take k, fitR 200 R)
  case atStart => exact ⟨rfl, 0, by omega, ⟨0, rfl, fun _ => by simp [total]⟩, rfl, fun x h => by simp at h⟩
  case round =>
    obtain ⟨rfl, k, hk, ⟨z, rfl, hz20⟩, rfl, hsmall⟩ := hrel
    have Z20 := Lib.hid hz20; clear hz20
    have hk1 : k ≤ L.length := by omega
    obtain ⟨n, hn⟩ : ∃ n, total (L.take k) = n := ⟨_, rfl⟩
    have hb : n ≤ k * 200 := by
      have := total_bound (L.take k) (fun R hR => (hsmall R hR).1)
      rw [List.length_take, Nat.min_eq_left hk1, hn] at this; exact this
    have J := Lib.hid hk; have SM := Lib.hid hsmall; have N := Lib.hid hn
    clear hk hsmall hn
    by_cases hlt : k < L.length
    · rcases HA.out with h0 | ⟨ga, oa, rfl, hca⟩
      · rw [h0] at hlt; simp at hlt
      obtain ⟨R, hR⟩ : ∃ R, L[k]? = some R := ⟨_, List.getElem?_eq_getElem hlt⟩
      obtain ⟨u, hu, hru⟩ := hca k R hR
      have hmem := List.mem_of_getElem? hR
      have hz := SZ.out R hmem
      have htt := total_take hR
      rw [N.out] at htt
      have i1 : (0 : Int) ≤ (k : Int) := by omega
      have i2 : (k : Int) < (L.length : Int) := by omega
      obtain ⟨ao2, cap2, rfl, hru2⟩ := hru
      have RU : Hid (ReadsC wr (.slice ao2 R.length cap2) R) := Lib.hid ⟨ao2, cap2, rfl, hru2⟩
      have hrl := hz.1
      have Z := Lib.hid hz; have TT := Lib.hid htt; have HR := Lib.hid hR
      clear hca hru2 hz htt hR
      have hgr := greatc_any wr (.slice ao2 R.length cap2) R RU.out Z.out.1 Z.out.2
      have GR := Lib.hid hgr; clear hgr
      by_cases hf : fitR 200 R
      · have hg : greatC 200 R = false := greatC_false.2 hf
        have hfl := hf.1
        have F := Lib.hid hf; have G := Lib.hid hg; clear hf hg
        by_cases hk20 : k ≤ 20
        · have hz : z = (n : Int) := by have := Z20.out hk20; rw [N.out] at this; exact this
          subst hz
          go_wp2_with (go_at_call 22; refine GR.out.mono ?_; rw [G.out]; rintro e w4 ⟨rfl, rfl⟩)
          go_roundg (gk - 1)
          case measure => have := J.out; omega
          case rel => exact ⟨rfl, k + 1, by have := J.out; omega, ⟨_, rfl, fun _ => by rw [TT.out]; go_num⟩, by go_num, fun x hx => by
            rw [List.take_add_one, HR.out] at hx
            rcases List.mem_append.1 hx with hx | hx
            · exact SM.out x hx
            · simp at hx; subst hx; exact F.out⟩
        · go_wp2_with (go_at_call 22; refine GR.out.mono ?_; rw [G.out]; rintro e w4 ⟨rfl, rfl⟩)
          go_roundg (gk - 1)
          case measure => have := J.out; omega
          case rel => exact ⟨rfl, k + 1, by have := J.out; omega, ⟨_, rfl, fun h => by omega⟩, by go_num, fun x hx => by
            rw [List.take_add_one, HR.out] at hx
            rcases List.mem_append.1 hx with hx | hx
            · exact SM.out x hx
            · simp at hx; subst hx; exact F.out⟩
      · have hg : greatC 200 R = true := greatC_true.2 hf
        have F := Lib.hid hf; have G := Lib.hid hg; clear hf hg
        go_wp2_with (go_at_call 22; refine GR.out.mono ?_; rw [G.out]; rintro e w4 ⟨rfl, rfl⟩)
        go_ret
        exact ⟨ret_bool (greatB_true.2 fun f => F.out (f.1 R hmem)).symm, rfl⟩
    · have hk2 : k = L.length := by omega
      have hall : ∀ R ∈ L, fitR 200 R := by have := SM.out; rwa [hk2, List.take_length] at this
      have htot : total L = n := by have := N.out; rwa [hk2, List.take_length] at this
      have HAL := Lib.hid hall; have HTO := Lib.hid htot; have K2 := Lib.hid hk2
      clear hall htot hk2
      have e3 : ¬ (k : Int) < (L.length : Int) := by omega
      by_cases c1 : L.length ≤ 20
      · have e4 : decide ((20 : Int) < (L.length : Int)) = false := by simp; omega
        have e4' : ¬ (20 : Int) < (L.length : Int) := by omega
        have hz : z = (n : Int) := by have := Z20.out (by have := K2.out; omega); rw [N.out] at this; exact this
        subst hz
        by_cases c2 : n ≤ 300
        · have e5 : ¬ (300 : Int) < (n : Int) := by omega
          go_wp2
          go_ret
          exact ⟨ret_bool (by rw [greatB_false.2 ⟨HAL.out, c1, by rw [HTO.out]; exact c2⟩] <;> (try simp) <;> (try omega)), rfl⟩
        · have e5 : (300 : Int) < (n : Int) := by omega
          go_wp2
          go_ret
          exact ⟨ret_bool (by rw [greatB_true.2 (fun f => c2 (by rw [← HTO.out]; exact f.2.2))] <;> (try simp) <;> (try omega)), rfl⟩
      · have e4 : (20 : Int) < (L.length : Int) := by omega
        go_wp2
        go_ret
        exact ⟨ret_bool (by rw [greatB_true.2 (fun f => c1 f.2.1)] <;> (try simp) <;> (try omega)), rfl⟩

/-- How often a list has a cell. -/
def countC : List Cel → Cel → Nat
  | [], _ => 0
  | x :: t, c => (if eqC x c = true then 1 else 0) + countC t c
theorem countC_snoc : ∀ (l : List Cel) (x c : Cel), countC (l ++ [x]) c = countC l c + (if eqC x c = true then 1 else 0)
  | [], x, c => by simp [countC]
  | y :: t, x, c => by simp [countC, countC_snoc t x c]; omega
theorem countC_le : ∀ (l : List Cel) (c : Cel), countC l c ≤ l.length
  | [], _ => Nat.le_refl _
  | y :: t, c => by have := countC_le t c; simp only [countC, List.length_cons]; split <;> omega

set_option maxHeartbeats 2000000 in
theorem count_any (w : World) (v : Value) (L : List Cel) (c : Cel) (h : ReadsC w v L) (hlen : L.length ≤ 1000) :
    Calls Try.prog 20 #[v, .agg #[.string c.k, .int .i64 c.s, .string c.v]] w fun e w' => e = .returned (.int .i64 (countC L c)) ∧ Kept (fun _ => False) w w' := by
  obtain ⟨ao, cap, rfl, ha⟩ := h
  have HA := Lib.hid ha; clear ha
  go_enter Try.func20, Try.ntmps20
  go_wp2
  go_loopg [5, 6] L.length (fun g s t wr => (∃ n, wr = (w.alloc (.cells #[.string c.k, .int .i64 c.s, .string c.v] 36)).drewN n) ∧ ∃ k : Nat, k + g = L.length ∧ s = .int .i64 (countC (L.take k) c) ∧ t = .int .i64 k)
  case atStart => exact ⟨⟨0, rfl⟩, 0, by omega, rfl, rfl⟩
  case round =>
    obtain ⟨⟨n, rfl⟩, k, hk, rfl, rfl⟩ := hrel
    have hk1 : k ≤ L.length := by omega
    obtain ⟨q, hq⟩ : ∃ q, countC (L.take k) c = q := ⟨_, rfl⟩
    have hql : q ≤ k := by have := countC_le (L.take k) c; rw [hq, List.length_take] at this; omega
    rw [hq]
    have J := Lib.hid hk; have Q := Lib.hid hq
    clear hk hq
    by_cases hlt : k < L.length
    · rcases HA.out with h0 | ⟨ga, oa, rfl, hca⟩
      · rw [h0] at hlt; simp at hlt
      obtain ⟨m, hm⟩ : ∃ m, L[k]? = some m := ⟨_, List.getElem?_eq_getElem hlt⟩
      obtain ⟨a0, a1, a2⟩ := ReadsC.at hca hm
      have hga := World.block_lt_of_cell? _ _ a0
      simp only at hga
      have i1 : (0 : Int) ≤ (k : Int) := by omega
      have i2 : (k : Int) < (L.length : Int) := by omega
      have htk : L.take (k + 1) = L.take k ++ [m] := by rw [List.take_add_one, hm]; rfl
      have hct : countC (L.take (k + 1)) c = q + (if eqC m c = true then 1 else 0) := by rw [htk, countC_snoc, Q.out]
      have CT := Lib.hid hct
      clear hca htk hct hm
      have h2 := g36
      have hq := eql36
      cases hb : eqC m c with
      | true =>
        go_wp2
        go_quiet (fail)
        go_wp2
        go_roundg (gk - 1)
        case measure => have := J.out; omega
        case rel => exact ⟨⟨_, rfl⟩, k + 1, by have := J.out; omega, by rw [CT.out, hb]; go_num, by go_num⟩
      | false =>
        go_wp2
        go_quiet (fail)
        go_wp2
        go_roundg (gk - 1)
        case measure => have := J.out; omega
        case rel => exact ⟨⟨_, rfl⟩, k + 1, by have := J.out; omega, by rw [CT.out, hb]; rfl, by go_num⟩
    · have hk2 : k = L.length := by omega
      have e3 : ¬ (k : Int) < (L.length : Int) := by omega
      have K2 := Lib.hid hk2; clear hk2
      go_wp2
      go_ret
      exact ⟨by rw [← Q.out, K2.out, List.take_length]; rfl, ((Kept.refl _ w).alloc _).trans (kept_drewN _ _) (fun _ _ f => f) (fun _ _ f => f)⟩
end Go.Proofs.Ytfhpjopdndnmgaa
