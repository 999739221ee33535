/- The document's All, walked: the cell that comes first is sought among all rows. -/
import Derived.Test.YtfhpjopdndnmgaaRefAll
namespace Go.Proofs.Ytfhpjopdndnmgaa
open Go.RowKit

theorem inf3 : (Try.prog.info? 3).map (fun i => (i.zero, i.size, i.bytes)) = some (some (.int .i64 0), 1, 8) := by kernel_rfl
/-- What is left of the rows, at so many of each that have come. -/
def restsOf (L : List (List Cel)) (ats : List Nat) : List (List Cel) := (List.range L.length).map (fun i => (nth L i).drop (nth ats i))
theorem rests_length (L : List (List Cel)) (ats : List Nat) : (restsOf L ats).length = L.length := by simp [restsOf]
theorem rests_nth {L : List (List Cel)} {ats : List Nat} {i : Nat} (h : i < L.length) : nth (restsOf L ats) i = (nth L i).drop (nth ats i) := by
  have e : (restsOf L ats)[i]? = some ((nth L i).drop (nth ats i)) := by simp [restsOf, h]
  have e2 := nth_get (restsOf L ats) (show i < (restsOf L ats).length by rw [rests_length]; exact h)
  rw [e] at e2; exact (Option.some.inj e2).symm
theorem nth_ext {a b : List (List Cel)} (h : a.length = b.length) (h2 : ∀ i, i < a.length → nth a i = nth b i) : a = b := by
  apply List.ext_getElem h
  intro i h1 h3
  have := h2 i h1
  simpa [nth, h1, h3] using this
theorem rests_set {L : List (List Cel)} {ats : List Nat} {b : Nat} (h : b < L.length) (hl : ats.length = L.length) : restsOf L (ats.set b (nth ats b + 1)) = (restsOf L ats).set b (nth (restsOf L ats) b).tail := by
  apply nth_ext
  · simp [rests_length]
  · intro i hi
    rw [rests_length] at hi
    rw [rests_nth hi, nth_set _ _ _ _ (by omega), nth_set _ _ _ _ (by rw [rests_length]; exact h)]
    by_cases e : i = b
    · subst e; rw [if_pos rfl, if_pos rfl, rests_nth h, List.tail_drop]
    · rw [if_neg e, if_neg e, rests_nth hi]
theorem total_set {rs : List (List Cel)} {b : Nat} (h : b < rs.length) (hp : 0 < (nth rs b).length) : total (rs.set b (nth rs b).tail) + 1 = total rs := by
  have h1 := set_eq_take_drop rs b (nth rs b).tail h
  have h2 := nth_split h
  have e1 : total (rs.set b (nth rs b).tail) = total (rs.take b) + ((nth rs b).length - 1 + total (rs.drop (b + 1))) := by
    rw [h1]; simp [total]
  have e2 : total rs = total (rs.take b) + ((nth rs b).length + total (rs.drop (b + 1))) := by
    conv => lhs; rw [h2]
    simp [total]
  omega
theorem rests_start (L : List (List Cel)) : restsOf L (List.replicate L.length 0) = L := by
  apply nth_ext
  · rw [rests_length]
  · intro i hi
    rw [rests_length] at hi
    rw [rests_nth hi]
    have : nth (List.replicate L.length 0) i = 0 := by simp [nth, hi]
    rw [this]; rfl
theorem nth_drop {R : List Cel} {a : Nat} (_ : a < R.length) : nth (R.drop a) 0 = nth R a := by simp [nth]
theorem total_zero {rs : List (List Cel)} (h : total rs = 0) : ∀ i, i < rs.length → (nth rs i).length = 0 := by
  intro i hi
  have h2 := nth_split hi
  have e2 : total rs = total (rs.take i) + ((nth rs i).length + total (rs.drop (i + 1))) := by
    conv => lhs; rw [h2]
    simp [total]
  omega
def bestInt : Option Nat → Int
  | none => -1
  | some b => b


theorem best_step_none {rs : List (List Cel)} {k : Nat} (h : 0 < (nth rs k).length) (hb : bestUp rs k = none) : bestUp rs (k + 1) = some k := by rw [bestUp, if_pos h, hb]
theorem best_step_some {rs : List (List Cel)} {k b : Nat} (h : 0 < (nth rs k).length) (hb : bestUp rs k = some b) : bestUp rs (k + 1) = if aheadC (hdR rs k) (hdR rs b) = true then some k else some b := by rw [bestUp, if_pos h, hb]
theorem merge_none {rs : List (List Cel)} (n : Nat) (hb : bestUp rs rs.length = none) : mergeF n rs = [] := by
  cases n with
  | zero => rfl
  | succ n => rw [mergeF, hb]
theorem merge_some' {rs : List (List Cel)} {b : Nat} (hb : bestUp rs rs.length = some b) : mergeF (total rs) rs = hdR rs b :: mergeF (total (rs.set b (nth rs b).tail)) (rs.set b (nth rs b).tail) := by
  obtain ⟨h1, h2, _⟩ := best_some rs _ b hb
  rw [← total_set h1 h2, mergeF, hb]

theorem mergeF_length : ∀ (n : Nat) (rs : List (List Cel)), (mergeF n rs).length ≤ n
  | 0, _ => Nat.le_refl _
  | n + 1, rs => by
    rw [mergeF]
    cases bestUp rs rs.length with
    | none => simp
    | some i => have := mergeF_length n (rs.set i (nth rs i).tail); simp; omega

/-- Where the document's All stands: so many of each row have come. -/
structure AllAt (w : World) (L : List (List Cel)) (gA : Nat) (wr : World) (ats : List Nat) (u : Value) (pre : List Cel) : Prop where
  len : ats.length = L.length
  le : ∀ i, i < L.length → nth ats i ≤ (nth L i).length
  kp : Kept (fun _ => False) w wr
  row : wr.ownsRow w.heap.size 3 1 (.slice (some ⟨gA, 0, none⟩) L.length L.length) L.length (ats.map (fun a : Nat => Value.int .i64 a))
  out : wr.ownsRow w.heap.size 36 3 u pre.length (cellsC pre)
  ne : u.ownBlock ≠ some gA

theorem AllAt.at_ {w wr : World} {L : List (List Cel)} {gA : Nat} {ats : List Nat} {u : Value} {pre : List Cel} (h : AllAt w L gA wr ats u pre) {i : Nat} (hi : i < L.length) : wr.cell? ⟨gA, i, none⟩ = some (.int .i64 ((nth ats i : Nat) : Int)) := by
  have := h.row.cellAt i (by omega)
  rw [this, List.getElem?_map, nth_get ats (by rw [h.len]; exact hi)]; rfl

set_option maxRecDepth 100000 in
set_option maxHeartbeats 8000000 in
/-- The inner loop: which row's first cell comes first. -/
theorem rall_any (w : World) (v0 : Value) (L : List (List Cel)) (h : ReadsR w v0 L) (hL : L.length ≤ 50) (hl : ∀ R ∈ L, R.length ≤ 1000) (ht : total L ≤ 1000) :
    Calls Try.prog 12 #[v0] w fun e w' => Kept (fun _ => False) w w' ∧
      ((L.all sortedB = false ∧ e = .returned (.tuple #[.slice none 0 0, .int .i64 2])) ∨
       (L.all sortedB = true ∧ ∃ u, e = .returned (.tuple #[u, .int .i64 0]) ∧ w'.ownsRow w.heap.size 36 3 u (mergeL L).length (cellsC (mergeL L)))) := by
  have MR := Lib.hid (may_rows w v0 L h hL hl)
  obtain ⟨ao, cap, rfl, h⟩ := h
  obtain ⟨i3, hi3, hz30, hz31, hz32⟩ := info_parts inf3
  obtain ⟨i0, hi0, hz0, hz1, hz2⟩ := info_parts inf36
  have hbytes : i3.bytes * L.length ≤ 281474976710656 := by rw [hz32]; omega
  have HR := Lib.hid h; have HL := Lib.hid hl; clear h hl
  have hor : L.all sortedB = true ∨ L.all sortedB = false := by cases L.all sortedB <;> simp
  rcases hor with ha | ha
  · have HA := Lib.hid ha; clear ha
    go_enter Try.func12, Try.ntmps12
    go_wp2_with (go_at_call 26; refine MR.out.mono ?_; rw [HA.out]; rintro e w1 ⟨rfl, k1⟩; (have K1 := Lib.hid k1); (obtain ⟨w2, hmk, ho2, hg2⟩ := run_make_full (P := Try.prog) w1 w.heap.size 52 3 i3 (.int .i64 0) 1 Try.underlying52 hi3 hz30 hz31 .i64 .i64 L.length hbytes (by unfold maxLen; omega) k1.size); (have O2 := Lib.hid ho2); (have G2 := Lib.hid (grown_kept hg2)); clear ho2 hg2 k1)
    have A2 : AllAt w L w1.heap.size w2 (List.replicate L.length 0) (.slice none 0 0) [] := by
      refine ⟨by simp, fun i hi => by simp [nth, hi], K1.out.trans G2.out (fun _ _ f => f) (fun _ _ e => by cases e), ?_, World.ownsRow_nil _ _ _ _, by simp [Value.ownBlock]⟩
      have h2 := O2.out
      have e : (madeCells (Value.int .i64 0).cells (L.length * 1)).toList = (List.replicate L.length 0).map (fun a : Nat => Value.int .i64 a) := by
        rw [Nat.mul_one]
        show (madeCells #[.int .i64 0] L.length).toList = _
        rw [toList_madeCells_one, List.map_replicate]; rfl
      rw [e] at h2; exact h2
    have AA := Lib.hid A2
    have hgA : w.heap.size ≤ w1.heap.size := K1.out.size
    obtain ⟨gA, hgA2⟩ : ∃ gA, w1.heap.size = gA := ⟨_, rfl⟩
    rw [hgA2] at AA hgA ⊢
    clear A2 hmk O2 G2 MR K1 hgA2
    go_loopg [5, 6, 7] (total L) (fun g s _ _ wr => ∃ ats ao' cap' pre, s = .slice ao' pre.length cap' ∧ AllAt w L gA wr ats (.slice ao' pre.length cap') pre ∧ total (restsOf L ats) = g ∧ pre ++ mergeF g (restsOf L ats) = mergeL L)
    case atStart => exact ⟨_, none, 0, [], rfl, AA.out, by rw [rests_start], by rw [rests_start]; rfl⟩
    case round =>
      obtain ⟨ats, ao', cap', pre, rfl, hA, htot, hmg⟩ := hrel
      obtain ⟨rs, hrs⟩ : ∃ rs, restsOf L ats = rs := ⟨_, rfl⟩
      rw [hrs] at htot hmg
      rw [← htot] at hmg
      have H := Lib.hid hA; have TT := Lib.hid htot; have MG := Lib.hid hmg; have RS := Lib.hid hrs
      have hpl : pre.length ≤ 1000 := by
        have h1 := congrArg List.length hmg
        rw [List.length_append] at h1
        have h2 := mergeF_length (total L) L
        unfold mergeL at h1; omega
      clear hA htot hmg hrs AA
      go_wp2
      go_loopg [6, 7] L.length (fun g s t wi => ∃ k : Nat, k + g = L.length ∧ t = .int .i64 k ∧ s = .int .i64 (bestInt (bestUp rs k)) ∧ Kept (fun _ => False) wr wi)
      case atStart => exact ⟨0, by omega, rfl, rfl, Kept.refl _ _⟩
      case round =>
        obtain ⟨k, hk, rfl, rfl, KW⟩ := hrel
        have hk1 : k ≤ L.length := by omega
        have JK := Lib.hid hk; have KF := Lib.hid KW
        clear hk KW
        by_cases hlt : k < L.length
        · rcases HR.out with h0 | ⟨g, o, rfl, hc⟩
          · rw [h0] at hlt; simp at hlt
          obtain ⟨R, hR⟩ : ∃ R, nth L k = R := ⟨_, rfl⟩
          have hRk := nth_get L hlt
          rw [hR] at hRk
          obtain ⟨uR, hu, aoR, cR, rfl, hru⟩ := hc k R hRk
          have KWW := Lib.hid (H.out.kp.trans KF.out (T := fun _ => False) (fun _ _ f => f) (fun _ _ f => f))
          have f1 := KWW.out.cell hu (fun f => f)
          obtain ⟨a, ha⟩ : ∃ a, nth ats k = a := ⟨_, rfl⟩
          have f0 := KF.out.cell (H.out.at_ hlt) (fun f => f)
          rw [ha] at f0
          have hgr : nth rs k = R.drop a := by rw [← RS.out, rests_nth hlt, hR, ha]
          have i1 : (0 : Int) ≤ (k : Int) := by omega
          have i2 : (k : Int) < (L.length : Int) := by omega
          have GR := Lib.hid hgr; have RK := Lib.hid hRk; have HRU := Lib.hid hru; have AT := Lib.hid ha; have RE := Lib.hid hR
          clear hu hRk hgr hru ha hR
          by_cases hal : a < R.length
          · have hdl : 0 < (nth rs k).length := by rw [GR.out, List.length_drop]; omega
            have e1 : decide (a < R.length) = true := by simp [hal]
            cases hb : bestUp rs k with
            | none =>
              have hst2 := best_step_none hdl hb
              have B2 := Lib.hid hst2; clear hst2 hdl hb
              show Code.wp _ _ _ _ _
              simp only [bestInt]
              go_wp2
              refine wp_region_held_drew (S := (fun w' => w'.cell? ⟨gA, k, none⟩ = some (.int .i64 a) ∧ w'.cell? ⟨g, o + k, none⟩ = some (.slice aoR R.length cR))) (by kernel_rfl) ?_ (fun hHeld => ?_)
              · exact ⟨f0, f1⟩
              refine wpAnyH_take (i := 0) (v := ?_) opAt0 (by kernel_rfl) (by kernel_rfl) (by kernel_rfl) (fun _ _ _ h => h) (Or.inl ⟨by rfl, ?_⟩) hHeld ?_
              case refine_2 => (intro w hSw; (try dsimp only at hSw); go_simp; all_goals (with_reducible rfl))
              (try simp only [Act.put]); (try simp only [List.setIfInBounds_toArray]); (try simp only [List.set_cons_succ]); (try simp only [List.set_cons_zero])
              refine wpAnyH_take (i := 1) (v := ?_) opAt1 (by kernel_rfl) (by kernel_rfl) (by kernel_rfl) (fun _ _ _ h => h) (Or.inl ⟨by rfl, ?_⟩) hHeld ?_
              case refine_2 => (intro w hSw; (try dsimp only at hSw); go_simp; all_goals (with_reducible rfl))
              (try simp only [Act.put]); (try simp only [List.setIfInBounds_toArray]); (try simp only [List.set_cons_succ]); (try simp only [List.set_cons_zero])
              refine wpAnyH_take (i := 2) (v := ?_) opAt2 (by kernel_rfl) (by kernel_rfl) (by kernel_rfl) (fun _ _ _ h => h) (Or.inl ⟨by rfl, ?_⟩) hHeld ?_
              case refine_2 => (intro w hSw; (try dsimp only at hSw); go_simp; all_goals (with_reducible rfl))
              (try simp only [Act.put]); (try simp only [List.setIfInBounds_toArray]); (try simp only [List.set_cons_succ]); (try simp only [List.set_cons_zero])
              refine wpAnyH_take (i := 3) (v := ?_) opAt3 (by kernel_rfl) (by kernel_rfl) (by kernel_rfl) (fun _ _ _ h => h) (Or.inl ⟨by rfl, ?_⟩) hHeld ?_
              case refine_2 => (intro w hSw; (try dsimp only at hSw); go_simp; all_goals (with_reducible rfl))
              (try simp only [Act.put]); (try simp only [List.setIfInBounds_toArray]); (try simp only [List.set_cons_succ]); (try simp only [List.set_cons_zero])
              refine wpAnyH_take (i := 4) (v := ?_) opAt4 (by kernel_rfl) (by kernel_rfl) (by kernel_rfl) (fun _ _ _ h => h) (Or.inl ⟨by rfl, ?_⟩) hHeld ?_
              case refine_2 => (intro w hSw; (try dsimp only at hSw); go_simp; all_goals (with_reducible rfl))
              (try simp only [Act.put]); (try simp only [List.setIfInBounds_toArray]); (try simp only [List.set_cons_succ]); (try simp only [List.set_cons_zero])
              refine wpAnyH_take (i := 5) (v := ?_) opAt5 (by kernel_rfl) (by kernel_rfl) (by kernel_rfl) (fun _ _ _ h => h) (Or.inl ⟨by rfl, ?_⟩) hHeld ?_
              case refine_2 => (intro w hSw; (try dsimp only at hSw); go_simp; all_goals (with_reducible rfl))
              (try simp only [Act.put]); (try simp only [List.setIfInBounds_toArray]); (try simp only [List.set_cons_succ]); (try simp only [List.set_cons_zero])
              refine wpAnyH_take (i := 6) (v := ?_) opAt6 (by kernel_rfl) (by kernel_rfl) (by kernel_rfl) (fun _ _ _ h => h) (Or.inl ⟨by rfl, ?_⟩) hHeld ?_
              case refine_2 => (intro w hSw; (try dsimp only at hSw); go_simp; all_goals (with_reducible rfl))
              (try simp only [Act.put]); (try simp only [List.setIfInBounds_toArray]); (try simp only [List.set_cons_succ]); (try simp only [List.set_cons_zero])
              refine wpAnyH_take (i := 7) (v := ?_) opAt7 (by kernel_rfl) (by kernel_rfl) (by kernel_rfl) (fun _ _ _ h => h) (Or.inl ⟨by rfl, ?_⟩) hHeld ?_
              case refine_2 => (intro w hSw; (try dsimp only at hSw); go_simp; all_goals (with_reducible rfl))
              (try simp only [Act.put]); (try simp only [List.setIfInBounds_toArray]); (try simp only [List.set_cons_succ]); (try simp only [List.set_cons_zero])
              refine wpAnyH_take (i := 8) (v := ?_) opAt8 (by kernel_rfl) (by kernel_rfl) (by kernel_rfl) (fun _ _ _ h => h) (Or.inl ⟨by rfl, ?_⟩) hHeld ?_
              case refine_2 => (intro w hSw; (try dsimp only at hSw); go_simp; all_goals (with_reducible rfl))
              (try simp only [Act.put]); (try simp only [List.setIfInBounds_toArray]); (try simp only [List.set_cons_succ]); (try simp only [List.set_cons_zero])
              refine wpAnyH_take (i := 9) (v := ?_) opAt9 (by kernel_rfl) (by kernel_rfl) (by kernel_rfl) (fun _ _ _ h => h) (Or.inl ⟨by rfl, ?_⟩) hHeld ?_
              case refine_2 => (intro w hSw; (try dsimp only at hSw); go_simp; all_goals (with_reducible rfl))
              (try simp only [Act.put]); (try simp only [List.setIfInBounds_toArray]); (try simp only [List.set_cons_succ]); (try simp only [List.set_cons_zero])
              refine wpAnyH_take (i := 10) (v := ?_) opAt10 (by kernel_rfl) (by kernel_rfl) (by kernel_rfl) (fun _ _ _ h => h) (Or.inl ⟨by rfl, ?_⟩) hHeld ?_
              case refine_2 => (intro w hSw; (try dsimp only at hSw); go_simp; all_goals (with_reducible rfl))
              (try simp only [Act.put]); (try simp only [List.setIfInBounds_toArray]); (try simp only [List.set_cons_succ]); (try simp only [List.set_cons_zero])
              refine wpAnyH_take (i := 11) (v := ?_) opAt11 (by kernel_rfl) (by kernel_rfl) (by kernel_rfl) (fun _ _ _ h => h) (Or.inl ⟨by rfl, ?_⟩) hHeld ?_
              case refine_2 => (intro w hSw; (try dsimp only at hSw); go_simp; all_goals (with_reducible rfl))
              (try simp only [Act.put]); (try simp only [List.setIfInBounds_toArray]); (try simp only [List.set_cons_succ]); (try simp only [List.set_cons_zero])
              refine wpAnyH_take (i := 12) (v := ?_) opAt12 (by kernel_rfl) (by kernel_rfl) (by kernel_rfl) (fun _ _ _ h => h) (Or.inl ⟨by rfl, ?_⟩) hHeld ?_
              case refine_2 => (intro w hSw; (try dsimp only at hSw); go_simp; all_goals (with_reducible rfl))
              (try simp only [Act.put]); (try simp only [List.setIfInBounds_toArray]); (try simp only [List.set_cons_succ]); (try simp only [List.set_cons_zero])
              refine wpAnyH_take (i := 13) (v := ?_) opAt13 (by kernel_rfl) (by kernel_rfl) (by kernel_rfl) (fun _ _ _ h => h) (Or.inl ⟨by rfl, ?_⟩) hHeld ?_
              case refine_2 => (intro w hSw; (try dsimp only at hSw); go_simp; all_goals (with_reducible rfl))
              (try simp only [Act.put]); (try simp only [List.setIfInBounds_toArray]); (try simp only [List.set_cons_succ]); (try simp only [List.set_cons_zero])
              refine wpAnyH_take (i := 14) opAt14 (by kernel_rfl) (by kernel_rfl) (by kernel_rfl) (fun _ _ _ h => h) (Or.inr ⟨by rfl, rfl⟩) hHeld ?_
              (try simp only [Act.put]); (try simp only [List.setIfInBounds_toArray]); (try simp only [List.set_cons_succ]); (try simp only [List.set_cons_zero])
              refine wpAnyH_take (i := 15) opAt15 (by kernel_rfl) (by kernel_rfl) (by kernel_rfl) (fun _ _ _ h => h) (Or.inr ⟨by rfl, rfl⟩) hHeld ?_
              (try simp only [Act.put]); (try simp only [List.setIfInBounds_toArray]); (try simp only [List.set_cons_succ]); (try simp only [List.set_cons_zero])
              refine wpAnyH_take (i := 16) opAt16 (by kernel_rfl) (by kernel_rfl) (by kernel_rfl) (fun _ _ _ h => h) (Or.inr ⟨by rfl, rfl⟩) hHeld ?_
              (try simp only [Act.put]); (try simp only [List.setIfInBounds_toArray]); (try simp only [List.set_cons_succ]); (try simp only [List.set_cons_zero])
              refine wpAnyH_take (i := 17) opAt17 (by kernel_rfl) (by kernel_rfl) (by kernel_rfl) (fun _ _ _ h => h) (Or.inr ⟨by rfl, rfl⟩) hHeld ?_
              (try simp only [Act.put]); (try simp only [List.setIfInBounds_toArray]); (try simp only [List.set_cons_succ]); (try simp only [List.set_cons_zero])
              refine wpAnyH_take (i := 18) opAt18 (by kernel_rfl) (by kernel_rfl) (by kernel_rfl) (fun _ _ _ h => h) (Or.inr ⟨by rfl, rfl⟩) hHeld ?_
              (try simp only [Act.put]); (try simp only [List.setIfInBounds_toArray]); (try simp only [List.set_cons_succ]); (try simp only [List.set_cons_zero])
              refine wpAnyH_take (i := 19) opAt19 (by kernel_rfl) (by kernel_rfl) (by kernel_rfl) (fun _ _ _ h => h) (Or.inr ⟨by rfl, rfl⟩) hHeld ?_
              (try simp only [Act.put]); (try simp only [List.setIfInBounds_toArray]); (try simp only [List.set_cons_succ]); (try simp only [List.set_cons_zero])
              refine wpAnyH_take (i := 20) opAt20 (by kernel_rfl) (by kernel_rfl) (by kernel_rfl) (fun _ _ _ h => h) (Or.inr ⟨by rfl, rfl⟩) hHeld ?_
              (try simp only [Act.put]); (try simp only [List.setIfInBounds_toArray]); (try simp only [List.set_cons_succ]); (try simp only [List.set_cons_zero])
              refine wpAnyH_take (i := 21) opAt21 (by kernel_rfl) (by kernel_rfl) (by kernel_rfl) (fun _ _ _ h => h) (Or.inr ⟨by rfl, rfl⟩) hHeld ?_
              (try simp only [Act.put]); (try simp only [List.setIfInBounds_toArray]); (try simp only [List.set_cons_succ]); (try simp only [List.set_cons_zero])
              refine wpAnyH_take (i := 22) opAt22 (by kernel_rfl) (by kernel_rfl) (by kernel_rfl) (fun _ _ _ h => h) (Or.inr ⟨by rfl, rfl⟩) hHeld ?_
              (try simp only [Act.put]); (try simp only [List.setIfInBounds_toArray]); (try simp only [List.set_cons_succ]); (try simp only [List.set_cons_zero])
              refine wpAnyH_take (i := 23) opAt23 (by kernel_rfl) (by kernel_rfl) (by kernel_rfl) (fun _ _ _ h => h) (Or.inr ⟨by rfl, rfl⟩) hHeld ?_
              (try simp only [Act.put]); (try simp only [List.setIfInBounds_toArray]); (try simp only [List.set_cons_succ]); (try simp only [List.set_cons_zero])
              refine wpAnyH_take (i := 24) opAt24 (by kernel_rfl) (by kernel_rfl) (by kernel_rfl) (fun _ _ _ h => h) (Or.inr ⟨by rfl, rfl⟩) hHeld ?_
              (try simp only [Act.put]); (try simp only [List.setIfInBounds_toArray]); (try simp only [List.set_cons_succ]); (try simp only [List.set_cons_zero])
              refine wpAnyH_take (i := 25) opAt25 (by kernel_rfl) (by kernel_rfl) (by kernel_rfl) (fun _ _ _ h => h) (Or.inr ⟨by rfl, rfl⟩) hHeld ?_
              (try simp only [Act.put]); (try simp only [List.setIfInBounds_toArray]); (try simp only [List.set_cons_succ]); (try simp only [List.set_cons_zero])
              refine wpAnyH_take (i := 26) opAt26 (by kernel_rfl) (by kernel_rfl) (by kernel_rfl) (fun _ _ _ h => h) (Or.inr ⟨by rfl, rfl⟩) hHeld ?_
              (try simp only [Act.put]); (try simp only [List.setIfInBounds_toArray]); (try simp only [List.set_cons_succ]); (try simp only [List.set_cons_zero])
              refine wpAnyH_take (i := 27) opAt27 (by kernel_rfl) (by kernel_rfl) (by kernel_rfl) (fun _ _ _ h => h) (Or.inr ⟨by rfl, rfl⟩) hHeld ?_
              (try simp only [Act.put]); (try simp only [List.setIfInBounds_toArray]); (try simp only [List.set_cons_succ]); (try simp only [List.set_cons_zero])
              refine wpAnyH_take (i := 28) opAt28 (by kernel_rfl) (by kernel_rfl) (by kernel_rfl) (fun _ _ _ h => h) (Or.inr ⟨by rfl, rfl⟩) hHeld ?_
              (try simp only [Act.put]); (try simp only [List.setIfInBounds_toArray]); (try simp only [List.set_cons_succ]); (try simp only [List.set_cons_zero])
              refine wpAnyH_take (i := 29) opAt29 (by kernel_rfl) (by kernel_rfl) (by kernel_rfl) (fun _ _ _ h => h) (Or.inr ⟨by rfl, rfl⟩) hHeld ?_
              (try simp only [Act.put]); (try simp only [List.setIfInBounds_toArray]); (try simp only [List.set_cons_succ]); (try simp only [List.set_cons_zero])
              refine wpAnyH_take (i := 30) opAt30 (by kernel_rfl) (by kernel_rfl) (by kernel_rfl) (fun _ _ _ h => h) (Or.inr ⟨by rfl, rfl⟩) hHeld ?_
              (try simp only [Act.put]); (try simp only [List.setIfInBounds_toArray]); (try simp only [List.set_cons_succ]); (try simp only [List.set_cons_zero])
              refine wpAnyH_take (i := 31) opAt31 (by kernel_rfl) (by kernel_rfl) (by kernel_rfl) (fun _ _ _ h => h) (Or.inr ⟨by rfl, rfl⟩) hHeld ?_
              (try simp only [Act.put]); (try simp only [List.setIfInBounds_toArray]); (try simp only [List.set_cons_succ]); (try simp only [List.set_cons_zero])
              refine wpAnyH_take (i := 32) opAt32 (by kernel_rfl) (by kernel_rfl) (by kernel_rfl) (fun _ _ _ h => h) (Or.inr ⟨by rfl, rfl⟩) hHeld ?_
              (try simp only [Act.put]); (try simp only [List.setIfInBounds_toArray]); (try simp only [List.set_cons_succ]); (try simp only [List.set_cons_zero])
              refine wpAnyH_take (i := 33) opAt33 (by kernel_rfl) (by kernel_rfl) (by kernel_rfl) (fun _ _ _ h => h) (Or.inr ⟨by rfl, rfl⟩) hHeld ?_
              (try simp only [Act.put]); (try simp only [List.setIfInBounds_toArray]); (try simp only [List.set_cons_succ]); (try simp only [List.set_cons_zero])
              refine wpAnyH_take (i := 34) opAt34 (by kernel_rfl) (by kernel_rfl) (by kernel_rfl) (fun _ _ _ h => h) (Or.inr ⟨by rfl, rfl⟩) hHeld ?_
              (try simp only [Act.put]); (try simp only [List.setIfInBounds_toArray]); (try simp only [List.set_cons_succ]); (try simp only [List.set_cons_zero])
              refine wpAnyH_take (i := 35) (v := ?_) opAt35 (by kernel_rfl) (by kernel_rfl) (by kernel_rfl) (fun _ _ _ h => h) (Or.inl ⟨by rfl, ?_⟩) hHeld ?_
              case refine_2 => (intro w hSw; (try dsimp only at hSw); go_simp; all_goals (with_reducible rfl))
              (try simp only [Act.put]); (try simp only [List.setIfInBounds_toArray]); (try simp only [List.set_cons_succ]); (try simp only [List.set_cons_zero])
              refine wpAnyH_take (i := 36) (v := ?_) opAt36 (by kernel_rfl) (by kernel_rfl) (by kernel_rfl) (fun _ _ _ h => h) (Or.inl ⟨by rfl, ?_⟩) hHeld ?_
              case refine_2 => (intro w hSw; (try dsimp only at hSw); go_simp; all_goals (with_reducible rfl))
              (try simp only [Act.put]); (try simp only [List.setIfInBounds_toArray]); (try simp only [List.set_cons_succ]); (try simp only [List.set_cons_zero])
              refine wpAnyH_done (by kernel_rfl) ?_ _
              go_wp2
              go_roundg (gk - 1)
              case measure => have := JK.out; omega
              case rel => exact ⟨k + 1, by have := JK.out; omega, by go_num, by rw [B2.out]; rfl, KF.out.drew⟩
            | some b =>
              obtain ⟨b1', b2', _⟩ := best_some rs k b hb
              have hbL : b < L.length := by omega
              obtain ⟨RB, hRB⟩ : ∃ RB, nth L b = RB := ⟨_, rfl⟩
              have hRBk := nth_get L hbL
              rw [hRB] at hRBk
              obtain ⟨uB, huB, aoB, cB, rfl, hrB⟩ := hc b RB hRBk
              have b1 := KWW.out.cell huB (fun f => f)
              obtain ⟨ab, hab⟩ : ∃ ab, nth ats b = ab := ⟨_, rfl⟩
              have b0 := KF.out.cell (H.out.at_ hbL) (fun f => f)
              rw [hab] at b0
              have hgB : nth rs b = RB.drop ab := by rw [← RS.out, rests_nth hbL, hRB, hab]
              have habl : ab < RB.length := by rw [hgB, List.length_drop] at b2'; omega
              rcases HRU.out with h0 | ⟨gR, oR, rfl, hcR⟩
              · rw [h0] at hal; simp at hal
              rcases hrB with h0 | ⟨gB, oB, rfl, hcB⟩
              · rw [h0] at habl; simp at habl
              obtain ⟨x, hx⟩ : ∃ x, nth R a = x := ⟨_, rfl⟩
              obtain ⟨y, hy⟩ : ∃ y, nth RB ab = y := ⟨_, rfl⟩
              have hxk := nth_get R hal
              have hyk := nth_get RB habl
              rw [hx] at hxk; rw [hy] at hyk
              obtain ⟨p0, p1, p2⟩ := ReadsC.at hcR hxk
              obtain ⟨q0, q1, q2⟩ := ReadsC.at hcB hyk
              have x0 := KWW.out.cell p0 (fun f => f)
              have x1 := KWW.out.cell p1 (fun f => f)
              have x2 := KWW.out.cell p2 (fun f => f)
              have y0 := KWW.out.cell q0 (fun f => f)
              have y1 := KWW.out.cell q1 (fun f => f)
              have y2 := KWW.out.cell q2 (fun f => f)
              have ehk : hdR rs k = x := by unfold hdR; rw [GR.out, nth_drop hal, hx]
              have ehb : hdR rs b = y := by unfold hdR; rw [hgB, nth_drop habl, hy]
              have hstep := best_step_some hdl hb
              rw [ehk, ehb] at hstep
              have i3' : (0 : Int) ≤ (b : Int) := by omega
              have i4 : (b : Int) < (L.length : Int) := by omega
              have i5 : (0 : Int) ≤ (a : Int) := by omega
              have i6 : (a : Int) < (R.length : Int) := by omega
              have i7 : (0 : Int) ≤ (ab : Int) := by omega
              have i8 : (ab : Int) < (RB.length : Int) := by omega
              have i9 : ¬ (b : Int) < 0 := by omega
              have ST := Lib.hid hstep
              clear hcR hcB p0 p1 p2 q0 q1 q2 hxk hyk hx hy ehk ehb hstep hgB hab hRB hRBk huB b1' b2' hb hdl hc
              have hor : aheadC x y = true ∨ aheadC x y = false := by cases aheadC x y <;> simp
              rcases hor with hah | hah
              · have B2 : bestUp rs (k + 1) = some k := by rw [ST.out, if_pos hah]
                have BB := Lib.hid B2; clear B2
                simp only [bestInt]
                go_wp2
                refine wp_region_held_drew (S := (fun w' => w'.cell? ⟨gA, k, none⟩ = some (.int .i64 a) ∧ w'.cell? ⟨g, o + k, none⟩ = some (.slice (some ⟨gR, oR, none⟩) R.length cR) ∧ w'.cell? ⟨gR, oR + a * 3, none⟩ = some (.string x.k) ∧ w'.cell? ⟨gR, oR + a * 3 + 1, none⟩ = some (.int .i64 x.s) ∧ w'.cell? ⟨gR, oR + a * 3 + 2, none⟩ = some (.string x.v) ∧ w'.cell? ⟨gA, b, none⟩ = some (.int .i64 ab) ∧ w'.cell? ⟨g, o + b, none⟩ = some (.slice (some ⟨gB, oB, none⟩) RB.length cB) ∧ w'.cell? ⟨gB, oB + ab * 3, none⟩ = some (.string y.k) ∧ w'.cell? ⟨gB, oB + ab * 3 + 1, none⟩ = some (.int .i64 y.s) ∧ w'.cell? ⟨gB, oB + ab * 3 + 2, none⟩ = some (.string y.v))) (by kernel_rfl) ?_ (fun hHeld => ?_)
                · exact ⟨f0, f1, x0, x1, x2, b0, b1, y0, y1, y2⟩
                refine wpAnyH_take (i := 0) (v := ?_) opAt0 (by kernel_rfl) (by kernel_rfl) (by kernel_rfl) (fun _ _ _ h => h) (Or.inl ⟨by rfl, ?_⟩) hHeld ?_
                case refine_2 => (intro w hSw; (try dsimp only at hSw); go_simp; all_goals (with_reducible rfl))
                (try simp only [Act.put]); (try simp only [List.setIfInBounds_toArray]); (try simp only [List.set_cons_succ]); (try simp only [List.set_cons_zero])
                refine wpAnyH_take (i := 1) (v := ?_) opAt1 (by kernel_rfl) (by kernel_rfl) (by kernel_rfl) (fun _ _ _ h => h) (Or.inl ⟨by rfl, ?_⟩) hHeld ?_
                case refine_2 => (intro w hSw; (try dsimp only at hSw); go_simp; all_goals (with_reducible rfl))
                (try simp only [Act.put]); (try simp only [List.setIfInBounds_toArray]); (try simp only [List.set_cons_succ]); (try simp only [List.set_cons_zero])
                refine wpAnyH_take (i := 2) (v := ?_) opAt2 (by kernel_rfl) (by kernel_rfl) (by kernel_rfl) (fun _ _ _ h => h) (Or.inl ⟨by rfl, ?_⟩) hHeld ?_
                case refine_2 => (intro w hSw; (try dsimp only at hSw); go_simp; all_goals (with_reducible rfl))
                (try simp only [Act.put]); (try simp only [List.setIfInBounds_toArray]); (try simp only [List.set_cons_succ]); (try simp only [List.set_cons_zero])
                refine wpAnyH_take (i := 3) (v := ?_) opAt3 (by kernel_rfl) (by kernel_rfl) (by kernel_rfl) (fun _ _ _ h => h) (Or.inl ⟨by rfl, ?_⟩) hHeld ?_
                case refine_2 => (intro w hSw; (try dsimp only at hSw); go_simp; all_goals (with_reducible rfl))
                (try simp only [Act.put]); (try simp only [List.setIfInBounds_toArray]); (try simp only [List.set_cons_succ]); (try simp only [List.set_cons_zero])
                refine wpAnyH_take (i := 4) (v := ?_) opAt4 (by kernel_rfl) (by kernel_rfl) (by kernel_rfl) (fun _ _ _ h => h) (Or.inl ⟨by rfl, ?_⟩) hHeld ?_
                case refine_2 => (intro w hSw; (try dsimp only at hSw); go_simp; all_goals (with_reducible rfl))
                (try simp only [Act.put]); (try simp only [List.setIfInBounds_toArray]); (try simp only [List.set_cons_succ]); (try simp only [List.set_cons_zero])
                refine wpAnyH_take (i := 5) (v := ?_) opAt5 (by kernel_rfl) (by kernel_rfl) (by kernel_rfl) (fun _ _ _ h => h) (Or.inl ⟨by rfl, ?_⟩) hHeld ?_
                case refine_2 => (intro w hSw; (try dsimp only at hSw); go_simp; all_goals (with_reducible rfl))
                (try simp only [Act.put]); (try simp only [List.setIfInBounds_toArray]); (try simp only [List.set_cons_succ]); (try simp only [List.set_cons_zero])
                refine wpAnyH_take (i := 6) (v := ?_) opAt6 (by kernel_rfl) (by kernel_rfl) (by kernel_rfl) (fun _ _ _ h => h) (Or.inl ⟨by rfl, ?_⟩) hHeld ?_
                case refine_2 => (intro w hSw; (try dsimp only at hSw); go_simp; all_goals (with_reducible rfl))
                (try simp only [Act.put]); (try simp only [List.setIfInBounds_toArray]); (try simp only [List.set_cons_succ]); (try simp only [List.set_cons_zero])
                refine wpAnyH_take (i := 7) (v := ?_) opAt7 (by kernel_rfl) (by kernel_rfl) (by kernel_rfl) (fun _ _ _ h => h) (Or.inl ⟨by rfl, ?_⟩) hHeld ?_
                case refine_2 => (intro w hSw; (try dsimp only at hSw); go_simp; all_goals (with_reducible rfl))
                (try simp only [Act.put]); (try simp only [List.setIfInBounds_toArray]); (try simp only [List.set_cons_succ]); (try simp only [List.set_cons_zero])
                refine wpAnyH_take (i := 8) (v := ?_) opAt8 (by kernel_rfl) (by kernel_rfl) (by kernel_rfl) (fun _ _ _ h => h) (Or.inl ⟨by rfl, ?_⟩) hHeld ?_
                case refine_2 => (intro w hSw; (try dsimp only at hSw); go_simp; all_goals (with_reducible rfl))
                (try simp only [Act.put]); (try simp only [List.setIfInBounds_toArray]); (try simp only [List.set_cons_succ]); (try simp only [List.set_cons_zero])
                refine wpAnyH_take (i := 9) (v := ?_) opAt9 (by kernel_rfl) (by kernel_rfl) (by kernel_rfl) (fun _ _ _ h => h) (Or.inl ⟨by rfl, ?_⟩) hHeld ?_
                case refine_2 => (intro w hSw; (try dsimp only at hSw); go_simp; all_goals (with_reducible rfl))
                (try simp only [Act.put]); (try simp only [List.setIfInBounds_toArray]); (try simp only [List.set_cons_succ]); (try simp only [List.set_cons_zero])
                refine wpAnyH_take (i := 10) (v := ?_) opAt10 (by kernel_rfl) (by kernel_rfl) (by kernel_rfl) (fun _ _ _ h => h) (Or.inl ⟨by rfl, ?_⟩) hHeld ?_
                case refine_2 => (intro w hSw; (try dsimp only at hSw); go_simp; all_goals (with_reducible rfl))
                (try simp only [Act.put]); (try simp only [List.setIfInBounds_toArray]); (try simp only [List.set_cons_succ]); (try simp only [List.set_cons_zero])
                refine wpAnyH_take (i := 11) (v := ?_) opAt11 (by kernel_rfl) (by kernel_rfl) (by kernel_rfl) (fun _ _ _ h => h) (Or.inl ⟨by rfl, ?_⟩) hHeld ?_
                case refine_2 => (intro w hSw; (try dsimp only at hSw); go_simp; all_goals (with_reducible rfl))
                (try simp only [Act.put]); (try simp only [List.setIfInBounds_toArray]); (try simp only [List.set_cons_succ]); (try simp only [List.set_cons_zero])
                refine wpAnyH_take (i := 12) (v := ?_) opAt12 (by kernel_rfl) (by kernel_rfl) (by kernel_rfl) (fun _ _ _ h => h) (Or.inl ⟨by rfl, ?_⟩) hHeld ?_
                case refine_2 => (intro w hSw; (try dsimp only at hSw); go_simp; all_goals (with_reducible rfl))
                (try simp only [Act.put]); (try simp only [List.setIfInBounds_toArray]); (try simp only [List.set_cons_succ]); (try simp only [List.set_cons_zero])
                refine wpAnyH_take (i := 13) (v := ?_) opAt13 (by kernel_rfl) (by kernel_rfl) (by kernel_rfl) (fun _ _ _ h => h) (Or.inl ⟨by rfl, ?_⟩) hHeld ?_
                case refine_2 => (intro w hSw; (try dsimp only at hSw); go_simp; all_goals (with_reducible rfl))
                (try simp only [Act.put]); (try simp only [List.setIfInBounds_toArray]); (try simp only [List.set_cons_succ]); (try simp only [List.set_cons_zero])
                refine wpAnyH_take (i := 14) (v := ?_) opAt14 (by kernel_rfl) (by kernel_rfl) (by kernel_rfl) (fun _ _ _ h => h) (Or.inl ⟨by rfl, ?_⟩) hHeld ?_
                case refine_2 => (intro w hSw; (try dsimp only at hSw); go_simp; all_goals (with_reducible rfl))
                (try simp only [Act.put]); (try simp only [List.setIfInBounds_toArray]); (try simp only [List.set_cons_succ]); (try simp only [List.set_cons_zero])
                refine wpAnyH_take (i := 15) (v := ?_) opAt15 (by kernel_rfl) (by kernel_rfl) (by kernel_rfl) (fun _ _ _ h => h) (Or.inl ⟨by rfl, ?_⟩) hHeld ?_
                case refine_2 => (intro w hSw; (try dsimp only at hSw); go_simp; all_goals (with_reducible rfl))
                (try simp only [Act.put]); (try simp only [List.setIfInBounds_toArray]); (try simp only [List.set_cons_succ]); (try simp only [List.set_cons_zero])
                refine wpAnyH_take (i := 16) (v := ?_) opAt16 (by kernel_rfl) (by kernel_rfl) (by kernel_rfl) (fun _ _ _ h => h) (Or.inl ⟨by rfl, ?_⟩) hHeld ?_
                case refine_2 => (intro w hSw; (try dsimp only at hSw); go_simp; all_goals (with_reducible rfl))
                (try simp only [Act.put]); (try simp only [List.setIfInBounds_toArray]); (try simp only [List.set_cons_succ]); (try simp only [List.set_cons_zero])
                refine wpAnyH_take (i := 17) (v := ?_) opAt17 (by kernel_rfl) (by kernel_rfl) (by kernel_rfl) (fun _ _ _ h => h) (Or.inl ⟨by rfl, ?_⟩) hHeld ?_
                case refine_2 => (intro w hSw; (try dsimp only at hSw); go_simp; all_goals (with_reducible rfl))
                (try simp only [Act.put]); (try simp only [List.setIfInBounds_toArray]); (try simp only [List.set_cons_succ]); (try simp only [List.set_cons_zero])
                refine wpAnyH_take (i := 18) (v := ?_) opAt18 (by kernel_rfl) (by kernel_rfl) (by kernel_rfl) (fun _ _ _ h => h) (Or.inl ⟨by rfl, ?_⟩) hHeld ?_
                case refine_2 => (intro w hSw; (try dsimp only at hSw); go_simp; all_goals (with_reducible rfl))
                (try simp only [Act.put]); (try simp only [List.setIfInBounds_toArray]); (try simp only [List.set_cons_succ]); (try simp only [List.set_cons_zero])
                refine wpAnyH_take (i := 19) (v := ?_) opAt19 (by kernel_rfl) (by kernel_rfl) (by kernel_rfl) (fun _ _ _ h => h) (Or.inl ⟨by rfl, ?_⟩) hHeld ?_
                case refine_2 => (intro w hSw; (try dsimp only at hSw); go_simp; all_goals (with_reducible rfl))
                (try simp only [Act.put]); (try simp only [List.setIfInBounds_toArray]); (try simp only [List.set_cons_succ]); (try simp only [List.set_cons_zero])
                refine wpAnyH_take (i := 20) (v := ?_) opAt20 (by kernel_rfl) (by kernel_rfl) (by kernel_rfl) (fun _ _ _ h => h) (Or.inl ⟨by rfl, ?_⟩) hHeld ?_
                case refine_2 => (intro w hSw; (try dsimp only at hSw); go_simp; all_goals (with_reducible rfl))
                (try simp only [Act.put]); (try simp only [List.setIfInBounds_toArray]); (try simp only [List.set_cons_succ]); (try simp only [List.set_cons_zero])
                refine wpAnyH_take (i := 21) (v := ?_) opAt21 (by kernel_rfl) (by kernel_rfl) (by kernel_rfl) (fun _ _ _ h => h) (Or.inl ⟨by rfl, ?_⟩) hHeld ?_
                case refine_2 => (intro w hSw; (try dsimp only at hSw); go_simp; all_goals (with_reducible rfl))
                (try simp only [Act.put]); (try simp only [List.setIfInBounds_toArray]); (try simp only [List.set_cons_succ]); (try simp only [List.set_cons_zero])
                refine wpAnyH_take (i := 22) (v := ?_) opAt22 (by kernel_rfl) (by kernel_rfl) (by kernel_rfl) (fun _ _ _ h => h) (Or.inl ⟨by rfl, ?_⟩) hHeld ?_
                case refine_2 => (intro w hSw; (try dsimp only at hSw); go_simp; all_goals (with_reducible rfl))
                (try simp only [Act.put]); (try simp only [List.setIfInBounds_toArray]); (try simp only [List.set_cons_succ]); (try simp only [List.set_cons_zero])
                refine wpAnyH_take (i := 23) (v := ?_) opAt23 (by kernel_rfl) (by kernel_rfl) (by kernel_rfl) (fun _ _ _ h => h) (Or.inl ⟨by rfl, ?_⟩) hHeld ?_
                case refine_2 => (intro w hSw; (try dsimp only at hSw); go_simp; all_goals (with_reducible rfl))
                (try simp only [Act.put]); (try simp only [List.setIfInBounds_toArray]); (try simp only [List.set_cons_succ]); (try simp only [List.set_cons_zero])
                refine wpAnyH_take (i := 24) (v := ?_) opAt24 (by kernel_rfl) (by kernel_rfl) (by kernel_rfl) (fun _ _ _ h => h) (Or.inl ⟨by rfl, ?_⟩) hHeld ?_
                case refine_2 => (intro w hSw; (try dsimp only at hSw); go_simp; all_goals (with_reducible rfl))
                (try simp only [Act.put]); (try simp only [List.setIfInBounds_toArray]); (try simp only [List.set_cons_succ]); (try simp only [List.set_cons_zero])
                refine wpAnyH_take (i := 25) (v := ?_) opAt25 (by kernel_rfl) (by kernel_rfl) (by kernel_rfl) (fun _ _ _ h => h) (Or.inl ⟨by rfl, ?_⟩) hHeld ?_
                case refine_2 => (intro w hSw; (try dsimp only at hSw); go_simp; all_goals (with_reducible rfl))
                (try simp only [Act.put]); (try simp only [List.setIfInBounds_toArray]); (try simp only [List.set_cons_succ]); (try simp only [List.set_cons_zero])
                refine wpAnyH_take (i := 26) (v := ?_) opAt26 (by kernel_rfl) (by kernel_rfl) (by kernel_rfl) (fun _ _ _ h => h) (Or.inl ⟨by rfl, ?_⟩) hHeld ?_
                case refine_2 => (intro w hSw; (try dsimp only at hSw); go_simp; all_goals (with_reducible rfl))
                (try simp only [Act.put]); (try simp only [List.setIfInBounds_toArray]); (try simp only [List.set_cons_succ]); (try simp only [List.set_cons_zero])
                refine wpAnyH_take (i := 27) (v := ?_) opAt27 (by kernel_rfl) (by kernel_rfl) (by kernel_rfl) (fun _ _ _ h => h) (Or.inl ⟨by rfl, ?_⟩) hHeld ?_
                case refine_2 => (intro w hSw; (try dsimp only at hSw); go_simp; all_goals (with_reducible rfl))
                (try simp only [Act.put]); (try simp only [List.setIfInBounds_toArray]); (try simp only [List.set_cons_succ]); (try simp only [List.set_cons_zero])
                refine wpAnyH_take (i := 28) (v := ?_) opAt28 (by kernel_rfl) (by kernel_rfl) (by kernel_rfl) (fun _ _ _ h => h) (Or.inl ⟨by rfl, ?_⟩) hHeld ?_
                case refine_2 => (intro w hSw; (try dsimp only at hSw); go_simp; all_goals (with_reducible rfl))
                (try simp only [Act.put]); (try simp only [List.setIfInBounds_toArray]); (try simp only [List.set_cons_succ]); (try simp only [List.set_cons_zero])
                refine wpAnyH_take (i := 29) (v := ?_) opAt29 (by kernel_rfl) (by kernel_rfl) (by kernel_rfl) (fun _ _ _ h => h) (Or.inl ⟨by rfl, ?_⟩) hHeld ?_
                case refine_2 => (intro w hSw; (try dsimp only at hSw); go_simp; all_goals (with_reducible rfl))
                (try simp only [Act.put]); (try simp only [List.setIfInBounds_toArray]); (try simp only [List.set_cons_succ]); (try simp only [List.set_cons_zero])
                refine wpAnyH_take (i := 30) (v := ?_) opAt30 (by kernel_rfl) (by kernel_rfl) (by kernel_rfl) (fun _ _ _ h => h) (Or.inl ⟨by rfl, ?_⟩) hHeld ?_
                case refine_2 => (intro w hSw; (try dsimp only at hSw); go_simp; all_goals (with_reducible rfl))
                (try simp only [Act.put]); (try simp only [List.setIfInBounds_toArray]); (try simp only [List.set_cons_succ]); (try simp only [List.set_cons_zero])
                refine wpAnyH_take (i := 31) (v := ?_) opAt31 (by kernel_rfl) (by kernel_rfl) (by kernel_rfl) (fun _ _ _ h => h) (Or.inl ⟨by rfl, ?_⟩) hHeld ?_
                case refine_2 => (intro w hSw; (try dsimp only at hSw); go_simp; all_goals (with_reducible rfl))
                (try simp only [Act.put]); (try simp only [List.setIfInBounds_toArray]); (try simp only [List.set_cons_succ]); (try simp only [List.set_cons_zero])
                refine wpAnyH_take (i := 32) (v := ?_) opAt32 (by kernel_rfl) (by kernel_rfl) (by kernel_rfl) (fun _ _ _ h => h) (Or.inl ⟨by rfl, ?_⟩) hHeld ?_
                case refine_2 => (intro w hSw; (try dsimp only at hSw); go_simp; all_goals (with_reducible rfl))
                (try simp only [Act.put]); (try simp only [List.setIfInBounds_toArray]); (try simp only [List.set_cons_succ]); (try simp only [List.set_cons_zero])
                refine wpAnyH_take (i := 33) (v := ?_) opAt33 (by kernel_rfl) (by kernel_rfl) (by kernel_rfl) (fun _ _ _ h => h) (Or.inl ⟨by rfl, ?_⟩) hHeld ?_
                case refine_2 => (intro w hSw; (try dsimp only at hSw); go_simp; all_goals (with_reducible rfl))
                (try simp only [Act.put]); (try simp only [List.setIfInBounds_toArray]); (try simp only [List.set_cons_succ]); (try simp only [List.set_cons_zero])
                refine wpAnyH_ready (rs := [34]) (by kernel_rfl) (by simp) ?_
                refine AllReadyH.cons opAt34 (fun K hK => ?_) AllReadyH.nil
                go_simp
                go_at_call 27; refine (ahead_any x y _).mono ?_; rw [hah]; rintro e w4 ⟨rfl, K4⟩; have KW4 := Lib.hid K4; clear K4; dsimp only
                refine hK.out _ _ ?_ (fun hHeld => ?_)
                · exact ⟨KW4.out.cell hHeld.1 (fun f => f), KW4.out.cell hHeld.2.1 (fun f => f), KW4.out.cell hHeld.2.2.1 (fun f => f), KW4.out.cell hHeld.2.2.2.1 (fun f => f), KW4.out.cell hHeld.2.2.2.2.1 (fun f => f), KW4.out.cell hHeld.2.2.2.2.2.1 (fun f => f), KW4.out.cell hHeld.2.2.2.2.2.2.1 (fun f => f), KW4.out.cell hHeld.2.2.2.2.2.2.2.1 (fun f => f), KW4.out.cell hHeld.2.2.2.2.2.2.2.2.1 (fun f => f), KW4.out.cell hHeld.2.2.2.2.2.2.2.2.2 (fun f => f)⟩
                clear hK K
                (try simp only [Act.put]); (try simp only [List.setIfInBounds_toArray]); (try simp only [List.set_cons_succ]); (try simp only [List.set_cons_zero])
                refine wpAnyH_take (i := 35) (v := ?_) opAt35 (by kernel_rfl) (by kernel_rfl) (by kernel_rfl) (fun _ _ _ h => h) (Or.inl ⟨by rfl, ?_⟩) hHeld ?_
                case refine_2 => (intro w hSw; (try dsimp only at hSw); go_simp; all_goals (with_reducible rfl))
                (try simp only [Act.put]); (try simp only [List.setIfInBounds_toArray]); (try simp only [List.set_cons_succ]); (try simp only [List.set_cons_zero])
                refine wpAnyH_take (i := 36) (v := ?_) opAt36 (by kernel_rfl) (by kernel_rfl) (by kernel_rfl) (fun _ _ _ h => h) (Or.inl ⟨by rfl, ?_⟩) hHeld ?_
                case refine_2 => (intro w hSw; (try dsimp only at hSw); go_simp; all_goals (with_reducible rfl))
                (try simp only [Act.put]); (try simp only [List.setIfInBounds_toArray]); (try simp only [List.set_cons_succ]); (try simp only [List.set_cons_zero])
                refine wpAnyH_done (by kernel_rfl) ?_ _
                go_wp2
                go_roundg (gk - 1)
                case measure => have := JK.out; omega
                case rel => exact ⟨k + 1, by have := JK.out; omega, by go_num, by rw [BB.out]; rfl, KF.out.drew.trans KW4.out (fun _ _ f => f) (fun _ _ f => f)⟩
              · have B2 : bestUp rs (k + 1) = some b := by rw [ST.out, if_neg (by rw [hah]; simp)]
                have BB := Lib.hid B2; clear B2
                simp only [bestInt]
                go_wp2
                refine wp_region_held_drew (S := (fun w' => w'.cell? ⟨gA, k, none⟩ = some (.int .i64 a) ∧ w'.cell? ⟨g, o + k, none⟩ = some (.slice (some ⟨gR, oR, none⟩) R.length cR) ∧ w'.cell? ⟨gR, oR + a * 3, none⟩ = some (.string x.k) ∧ w'.cell? ⟨gR, oR + a * 3 + 1, none⟩ = some (.int .i64 x.s) ∧ w'.cell? ⟨gR, oR + a * 3 + 2, none⟩ = some (.string x.v) ∧ w'.cell? ⟨gA, b, none⟩ = some (.int .i64 ab) ∧ w'.cell? ⟨g, o + b, none⟩ = some (.slice (some ⟨gB, oB, none⟩) RB.length cB) ∧ w'.cell? ⟨gB, oB + ab * 3, none⟩ = some (.string y.k) ∧ w'.cell? ⟨gB, oB + ab * 3 + 1, none⟩ = some (.int .i64 y.s) ∧ w'.cell? ⟨gB, oB + ab * 3 + 2, none⟩ = some (.string y.v))) (by kernel_rfl) ?_ (fun hHeld => ?_)
                · exact ⟨f0, f1, x0, x1, x2, b0, b1, y0, y1, y2⟩
                refine wpAnyH_take (i := 0) (v := ?_) opAt0 (by kernel_rfl) (by kernel_rfl) (by kernel_rfl) (fun _ _ _ h => h) (Or.inl ⟨by rfl, ?_⟩) hHeld ?_
                case refine_2 => (intro w hSw; (try dsimp only at hSw); go_simp; all_goals (with_reducible rfl))
                (try simp only [Act.put]); (try simp only [List.setIfInBounds_toArray]); (try simp only [List.set_cons_succ]); (try simp only [List.set_cons_zero])
                refine wpAnyH_take (i := 1) (v := ?_) opAt1 (by kernel_rfl) (by kernel_rfl) (by kernel_rfl) (fun _ _ _ h => h) (Or.inl ⟨by rfl, ?_⟩) hHeld ?_
                case refine_2 => (intro w hSw; (try dsimp only at hSw); go_simp; all_goals (with_reducible rfl))
                (try simp only [Act.put]); (try simp only [List.setIfInBounds_toArray]); (try simp only [List.set_cons_succ]); (try simp only [List.set_cons_zero])
                refine wpAnyH_take (i := 2) (v := ?_) opAt2 (by kernel_rfl) (by kernel_rfl) (by kernel_rfl) (fun _ _ _ h => h) (Or.inl ⟨by rfl, ?_⟩) hHeld ?_
                case refine_2 => (intro w hSw; (try dsimp only at hSw); go_simp; all_goals (with_reducible rfl))
                (try simp only [Act.put]); (try simp only [List.setIfInBounds_toArray]); (try simp only [List.set_cons_succ]); (try simp only [List.set_cons_zero])
                refine wpAnyH_take (i := 3) (v := ?_) opAt3 (by kernel_rfl) (by kernel_rfl) (by kernel_rfl) (fun _ _ _ h => h) (Or.inl ⟨by rfl, ?_⟩) hHeld ?_
                case refine_2 => (intro w hSw; (try dsimp only at hSw); go_simp; all_goals (with_reducible rfl))
                (try simp only [Act.put]); (try simp only [List.setIfInBounds_toArray]); (try simp only [List.set_cons_succ]); (try simp only [List.set_cons_zero])
                refine wpAnyH_take (i := 4) (v := ?_) opAt4 (by kernel_rfl) (by kernel_rfl) (by kernel_rfl) (fun _ _ _ h => h) (Or.inl ⟨by rfl, ?_⟩) hHeld ?_
                case refine_2 => (intro w hSw; (try dsimp only at hSw); go_simp; all_goals (with_reducible rfl))
                (try simp only [Act.put]); (try simp only [List.setIfInBounds_toArray]); (try simp only [List.set_cons_succ]); (try simp only [List.set_cons_zero])
                refine wpAnyH_take (i := 5) (v := ?_) opAt5 (by kernel_rfl) (by kernel_rfl) (by kernel_rfl) (fun _ _ _ h => h) (Or.inl ⟨by rfl, ?_⟩) hHeld ?_
                case refine_2 => (intro w hSw; (try dsimp only at hSw); go_simp; all_goals (with_reducible rfl))
                (try simp only [Act.put]); (try simp only [List.setIfInBounds_toArray]); (try simp only [List.set_cons_succ]); (try simp only [List.set_cons_zero])
                refine wpAnyH_take (i := 6) (v := ?_) opAt6 (by kernel_rfl) (by kernel_rfl) (by kernel_rfl) (fun _ _ _ h => h) (Or.inl ⟨by rfl, ?_⟩) hHeld ?_
                case refine_2 => (intro w hSw; (try dsimp only at hSw); go_simp; all_goals (with_reducible rfl))
                (try simp only [Act.put]); (try simp only [List.setIfInBounds_toArray]); (try simp only [List.set_cons_succ]); (try simp only [List.set_cons_zero])
                refine wpAnyH_take (i := 7) (v := ?_) opAt7 (by kernel_rfl) (by kernel_rfl) (by kernel_rfl) (fun _ _ _ h => h) (Or.inl ⟨by rfl, ?_⟩) hHeld ?_
                case refine_2 => (intro w hSw; (try dsimp only at hSw); go_simp; all_goals (with_reducible rfl))
                (try simp only [Act.put]); (try simp only [List.setIfInBounds_toArray]); (try simp only [List.set_cons_succ]); (try simp only [List.set_cons_zero])
                refine wpAnyH_take (i := 8) (v := ?_) opAt8 (by kernel_rfl) (by kernel_rfl) (by kernel_rfl) (fun _ _ _ h => h) (Or.inl ⟨by rfl, ?_⟩) hHeld ?_
                case refine_2 => (intro w hSw; (try dsimp only at hSw); go_simp; all_goals (with_reducible rfl))
                (try simp only [Act.put]); (try simp only [List.setIfInBounds_toArray]); (try simp only [List.set_cons_succ]); (try simp only [List.set_cons_zero])
                refine wpAnyH_take (i := 9) (v := ?_) opAt9 (by kernel_rfl) (by kernel_rfl) (by kernel_rfl) (fun _ _ _ h => h) (Or.inl ⟨by rfl, ?_⟩) hHeld ?_
                case refine_2 => (intro w hSw; (try dsimp only at hSw); go_simp; all_goals (with_reducible rfl))
                (try simp only [Act.put]); (try simp only [List.setIfInBounds_toArray]); (try simp only [List.set_cons_succ]); (try simp only [List.set_cons_zero])
                refine wpAnyH_take (i := 10) (v := ?_) opAt10 (by kernel_rfl) (by kernel_rfl) (by kernel_rfl) (fun _ _ _ h => h) (Or.inl ⟨by rfl, ?_⟩) hHeld ?_
                case refine_2 => (intro w hSw; (try dsimp only at hSw); go_simp; all_goals (with_reducible rfl))
                (try simp only [Act.put]); (try simp only [List.setIfInBounds_toArray]); (try simp only [List.set_cons_succ]); (try simp only [List.set_cons_zero])
                refine wpAnyH_take (i := 11) (v := ?_) opAt11 (by kernel_rfl) (by kernel_rfl) (by kernel_rfl) (fun _ _ _ h => h) (Or.inl ⟨by rfl, ?_⟩) hHeld ?_
                case refine_2 => (intro w hSw; (try dsimp only at hSw); go_simp; all_goals (with_reducible rfl))
                (try simp only [Act.put]); (try simp only [List.setIfInBounds_toArray]); (try simp only [List.set_cons_succ]); (try simp only [List.set_cons_zero])
                refine wpAnyH_take (i := 12) (v := ?_) opAt12 (by kernel_rfl) (by kernel_rfl) (by kernel_rfl) (fun _ _ _ h => h) (Or.inl ⟨by rfl, ?_⟩) hHeld ?_
                case refine_2 => (intro w hSw; (try dsimp only at hSw); go_simp; all_goals (with_reducible rfl))
                (try simp only [Act.put]); (try simp only [List.setIfInBounds_toArray]); (try simp only [List.set_cons_succ]); (try simp only [List.set_cons_zero])
                refine wpAnyH_take (i := 13) (v := ?_) opAt13 (by kernel_rfl) (by kernel_rfl) (by kernel_rfl) (fun _ _ _ h => h) (Or.inl ⟨by rfl, ?_⟩) hHeld ?_
                case refine_2 => (intro w hSw; (try dsimp only at hSw); go_simp; all_goals (with_reducible rfl))
                (try simp only [Act.put]); (try simp only [List.setIfInBounds_toArray]); (try simp only [List.set_cons_succ]); (try simp only [List.set_cons_zero])
                refine wpAnyH_take (i := 14) (v := ?_) opAt14 (by kernel_rfl) (by kernel_rfl) (by kernel_rfl) (fun _ _ _ h => h) (Or.inl ⟨by rfl, ?_⟩) hHeld ?_
                case refine_2 => (intro w hSw; (try dsimp only at hSw); go_simp; all_goals (with_reducible rfl))
                (try simp only [Act.put]); (try simp only [List.setIfInBounds_toArray]); (try simp only [List.set_cons_succ]); (try simp only [List.set_cons_zero])
                refine wpAnyH_take (i := 15) (v := ?_) opAt15 (by kernel_rfl) (by kernel_rfl) (by kernel_rfl) (fun _ _ _ h => h) (Or.inl ⟨by rfl, ?_⟩) hHeld ?_
                case refine_2 => (intro w hSw; (try dsimp only at hSw); go_simp; all_goals (with_reducible rfl))
                (try simp only [Act.put]); (try simp only [List.setIfInBounds_toArray]); (try simp only [List.set_cons_succ]); (try simp only [List.set_cons_zero])
                refine wpAnyH_take (i := 16) (v := ?_) opAt16 (by kernel_rfl) (by kernel_rfl) (by kernel_rfl) (fun _ _ _ h => h) (Or.inl ⟨by rfl, ?_⟩) hHeld ?_
                case refine_2 => (intro w hSw; (try dsimp only at hSw); go_simp; all_goals (with_reducible rfl))
                (try simp only [Act.put]); (try simp only [List.setIfInBounds_toArray]); (try simp only [List.set_cons_succ]); (try simp only [List.set_cons_zero])
                refine wpAnyH_take (i := 17) (v := ?_) opAt17 (by kernel_rfl) (by kernel_rfl) (by kernel_rfl) (fun _ _ _ h => h) (Or.inl ⟨by rfl, ?_⟩) hHeld ?_
                case refine_2 => (intro w hSw; (try dsimp only at hSw); go_simp; all_goals (with_reducible rfl))
                (try simp only [Act.put]); (try simp only [List.setIfInBounds_toArray]); (try simp only [List.set_cons_succ]); (try simp only [List.set_cons_zero])
                refine wpAnyH_take (i := 18) (v := ?_) opAt18 (by kernel_rfl) (by kernel_rfl) (by kernel_rfl) (fun _ _ _ h => h) (Or.inl ⟨by rfl, ?_⟩) hHeld ?_
                case refine_2 => (intro w hSw; (try dsimp only at hSw); go_simp; all_goals (with_reducible rfl))
                (try simp only [Act.put]); (try simp only [List.setIfInBounds_toArray]); (try simp only [List.set_cons_succ]); (try simp only [List.set_cons_zero])
                refine wpAnyH_take (i := 19) (v := ?_) opAt19 (by kernel_rfl) (by kernel_rfl) (by kernel_rfl) (fun _ _ _ h => h) (Or.inl ⟨by rfl, ?_⟩) hHeld ?_
                case refine_2 => (intro w hSw; (try dsimp only at hSw); go_simp; all_goals (with_reducible rfl))
                (try simp only [Act.put]); (try simp only [List.setIfInBounds_toArray]); (try simp only [List.set_cons_succ]); (try simp only [List.set_cons_zero])
                refine wpAnyH_take (i := 20) (v := ?_) opAt20 (by kernel_rfl) (by kernel_rfl) (by kernel_rfl) (fun _ _ _ h => h) (Or.inl ⟨by rfl, ?_⟩) hHeld ?_
                case refine_2 => (intro w hSw; (try dsimp only at hSw); go_simp; all_goals (with_reducible rfl))
                (try simp only [Act.put]); (try simp only [List.setIfInBounds_toArray]); (try simp only [List.set_cons_succ]); (try simp only [List.set_cons_zero])
                refine wpAnyH_take (i := 21) (v := ?_) opAt21 (by kernel_rfl) (by kernel_rfl) (by kernel_rfl) (fun _ _ _ h => h) (Or.inl ⟨by rfl, ?_⟩) hHeld ?_
                case refine_2 => (intro w hSw; (try dsimp only at hSw); go_simp; all_goals (with_reducible rfl))
                (try simp only [Act.put]); (try simp only [List.setIfInBounds_toArray]); (try simp only [List.set_cons_succ]); (try simp only [List.set_cons_zero])
                refine wpAnyH_take (i := 22) (v := ?_) opAt22 (by kernel_rfl) (by kernel_rfl) (by kernel_rfl) (fun _ _ _ h => h) (Or.inl ⟨by rfl, ?_⟩) hHeld ?_
                case refine_2 => (intro w hSw; (try dsimp only at hSw); go_simp; all_goals (with_reducible rfl))
                (try simp only [Act.put]); (try simp only [List.setIfInBounds_toArray]); (try simp only [List.set_cons_succ]); (try simp only [List.set_cons_zero])
                refine wpAnyH_take (i := 23) (v := ?_) opAt23 (by kernel_rfl) (by kernel_rfl) (by kernel_rfl) (fun _ _ _ h => h) (Or.inl ⟨by rfl, ?_⟩) hHeld ?_
                case refine_2 => (intro w hSw; (try dsimp only at hSw); go_simp; all_goals (with_reducible rfl))
                (try simp only [Act.put]); (try simp only [List.setIfInBounds_toArray]); (try simp only [List.set_cons_succ]); (try simp only [List.set_cons_zero])
                refine wpAnyH_take (i := 24) (v := ?_) opAt24 (by kernel_rfl) (by kernel_rfl) (by kernel_rfl) (fun _ _ _ h => h) (Or.inl ⟨by rfl, ?_⟩) hHeld ?_
                case refine_2 => (intro w hSw; (try dsimp only at hSw); go_simp; all_goals (with_reducible rfl))
                (try simp only [Act.put]); (try simp only [List.setIfInBounds_toArray]); (try simp only [List.set_cons_succ]); (try simp only [List.set_cons_zero])
                refine wpAnyH_take (i := 25) (v := ?_) opAt25 (by kernel_rfl) (by kernel_rfl) (by kernel_rfl) (fun _ _ _ h => h) (Or.inl ⟨by rfl, ?_⟩) hHeld ?_
                case refine_2 => (intro w hSw; (try dsimp only at hSw); go_simp; all_goals (with_reducible rfl))
                (try simp only [Act.put]); (try simp only [List.setIfInBounds_toArray]); (try simp only [List.set_cons_succ]); (try simp only [List.set_cons_zero])
                refine wpAnyH_take (i := 26) (v := ?_) opAt26 (by kernel_rfl) (by kernel_rfl) (by kernel_rfl) (fun _ _ _ h => h) (Or.inl ⟨by rfl, ?_⟩) hHeld ?_
                case refine_2 => (intro w hSw; (try dsimp only at hSw); go_simp; all_goals (with_reducible rfl))
                (try simp only [Act.put]); (try simp only [List.setIfInBounds_toArray]); (try simp only [List.set_cons_succ]); (try simp only [List.set_cons_zero])
                refine wpAnyH_take (i := 27) (v := ?_) opAt27 (by kernel_rfl) (by kernel_rfl) (by kernel_rfl) (fun _ _ _ h => h) (Or.inl ⟨by rfl, ?_⟩) hHeld ?_
                case refine_2 => (intro w hSw; (try dsimp only at hSw); go_simp; all_goals (with_reducible rfl))
                (try simp only [Act.put]); (try simp only [List.setIfInBounds_toArray]); (try simp only [List.set_cons_succ]); (try simp only [List.set_cons_zero])
                refine wpAnyH_take (i := 28) (v := ?_) opAt28 (by kernel_rfl) (by kernel_rfl) (by kernel_rfl) (fun _ _ _ h => h) (Or.inl ⟨by rfl, ?_⟩) hHeld ?_
                case refine_2 => (intro w hSw; (try dsimp only at hSw); go_simp; all_goals (with_reducible rfl))
                (try simp only [Act.put]); (try simp only [List.setIfInBounds_toArray]); (try simp only [List.set_cons_succ]); (try simp only [List.set_cons_zero])
                refine wpAnyH_take (i := 29) (v := ?_) opAt29 (by kernel_rfl) (by kernel_rfl) (by kernel_rfl) (fun _ _ _ h => h) (Or.inl ⟨by rfl, ?_⟩) hHeld ?_
                case refine_2 => (intro w hSw; (try dsimp only at hSw); go_simp; all_goals (with_reducible rfl))
                (try simp only [Act.put]); (try simp only [List.setIfInBounds_toArray]); (try simp only [List.set_cons_succ]); (try simp only [List.set_cons_zero])
                refine wpAnyH_take (i := 30) (v := ?_) opAt30 (by kernel_rfl) (by kernel_rfl) (by kernel_rfl) (fun _ _ _ h => h) (Or.inl ⟨by rfl, ?_⟩) hHeld ?_
                case refine_2 => (intro w hSw; (try dsimp only at hSw); go_simp; all_goals (with_reducible rfl))
                (try simp only [Act.put]); (try simp only [List.setIfInBounds_toArray]); (try simp only [List.set_cons_succ]); (try simp only [List.set_cons_zero])
                refine wpAnyH_take (i := 31) (v := ?_) opAt31 (by kernel_rfl) (by kernel_rfl) (by kernel_rfl) (fun _ _ _ h => h) (Or.inl ⟨by rfl, ?_⟩) hHeld ?_
                case refine_2 => (intro w hSw; (try dsimp only at hSw); go_simp; all_goals (with_reducible rfl))
                (try simp only [Act.put]); (try simp only [List.setIfInBounds_toArray]); (try simp only [List.set_cons_succ]); (try simp only [List.set_cons_zero])
                refine wpAnyH_take (i := 32) (v := ?_) opAt32 (by kernel_rfl) (by kernel_rfl) (by kernel_rfl) (fun _ _ _ h => h) (Or.inl ⟨by rfl, ?_⟩) hHeld ?_
                case refine_2 => (intro w hSw; (try dsimp only at hSw); go_simp; all_goals (with_reducible rfl))
                (try simp only [Act.put]); (try simp only [List.setIfInBounds_toArray]); (try simp only [List.set_cons_succ]); (try simp only [List.set_cons_zero])
                refine wpAnyH_take (i := 33) (v := ?_) opAt33 (by kernel_rfl) (by kernel_rfl) (by kernel_rfl) (fun _ _ _ h => h) (Or.inl ⟨by rfl, ?_⟩) hHeld ?_
                case refine_2 => (intro w hSw; (try dsimp only at hSw); go_simp; all_goals (with_reducible rfl))
                (try simp only [Act.put]); (try simp only [List.setIfInBounds_toArray]); (try simp only [List.set_cons_succ]); (try simp only [List.set_cons_zero])
                refine wpAnyH_ready (rs := [34]) (by kernel_rfl) (by simp) ?_
                refine AllReadyH.cons opAt34 (fun K hK => ?_) AllReadyH.nil
                go_simp
                go_at_call 27; refine (ahead_any x y _).mono ?_; rw [hah]; rintro e w4 ⟨rfl, K4⟩; have KW4 := Lib.hid K4; clear K4; dsimp only
                refine hK.out _ _ ?_ (fun hHeld => ?_)
                · exact ⟨KW4.out.cell hHeld.1 (fun f => f), KW4.out.cell hHeld.2.1 (fun f => f), KW4.out.cell hHeld.2.2.1 (fun f => f), KW4.out.cell hHeld.2.2.2.1 (fun f => f), KW4.out.cell hHeld.2.2.2.2.1 (fun f => f), KW4.out.cell hHeld.2.2.2.2.2.1 (fun f => f), KW4.out.cell hHeld.2.2.2.2.2.2.1 (fun f => f), KW4.out.cell hHeld.2.2.2.2.2.2.2.1 (fun f => f), KW4.out.cell hHeld.2.2.2.2.2.2.2.2.1 (fun f => f), KW4.out.cell hHeld.2.2.2.2.2.2.2.2.2 (fun f => f)⟩
                clear hK K
                (try simp only [Act.put]); (try simp only [List.setIfInBounds_toArray]); (try simp only [List.set_cons_succ]); (try simp only [List.set_cons_zero])
                refine wpAnyH_take (i := 35) (v := ?_) opAt35 (by kernel_rfl) (by kernel_rfl) (by kernel_rfl) (fun _ _ _ h => h) (Or.inl ⟨by rfl, ?_⟩) hHeld ?_
                case refine_2 => (intro w hSw; (try dsimp only at hSw); go_simp; all_goals (with_reducible rfl))
                (try simp only [Act.put]); (try simp only [List.setIfInBounds_toArray]); (try simp only [List.set_cons_succ]); (try simp only [List.set_cons_zero])
                refine wpAnyH_take (i := 36) (v := ?_) opAt36 (by kernel_rfl) (by kernel_rfl) (by kernel_rfl) (fun _ _ _ h => h) (Or.inl ⟨by rfl, ?_⟩) hHeld ?_
                case refine_2 => (intro w hSw; (try dsimp only at hSw); go_simp; all_goals (with_reducible rfl))
                (try simp only [Act.put]); (try simp only [List.setIfInBounds_toArray]); (try simp only [List.set_cons_succ]); (try simp only [List.set_cons_zero])
                refine wpAnyH_done (by kernel_rfl) ?_ _
                go_wp2
                go_roundg (gk - 1)
                case measure => have := JK.out; omega
                case rel => exact ⟨k + 1, by have := JK.out; omega, by go_num, by rw [BB.out]; rfl, KF.out.drew.trans KW4.out (fun _ _ f => f) (fun _ _ f => f)⟩
          · have hdl : ¬ 0 < (nth rs k).length := by rw [GR.out, List.length_drop]; omega
            have e1 : decide (a < R.length) = false := by simp; omega
            have hst2 : bestUp rs (k + 1) = bestUp rs k := by rw [bestUp, if_neg hdl]
            have B2 := Lib.hid hst2
            obtain ⟨z, hz⟩ : ∃ z, bestInt (bestUp rs k) = z := ⟨_, rfl⟩
            rw [hz]
            have Z := Lib.hid hz
            clear hst2 hdl hz hc
            go_wp2
            refine wp_region_held_drew (S := (fun w' => w'.cell? ⟨gA, k, none⟩ = some (.int .i64 a) ∧ w'.cell? ⟨g, o + k, none⟩ = some (.slice aoR R.length cR))) (by kernel_rfl) ?_ (fun hHeld => ?_)
            · exact ⟨f0, f1⟩
            refine wpAnyH_take (i := 0) (v := ?_) opAt0 (by kernel_rfl) (by kernel_rfl) (by kernel_rfl) (fun _ _ _ h => h) (Or.inl ⟨by rfl, ?_⟩) hHeld ?_
            case refine_2 => (intro w hSw; (try dsimp only at hSw); go_simp; all_goals (with_reducible rfl))
            (try simp only [Act.put]); (try simp only [List.setIfInBounds_toArray]); (try simp only [List.set_cons_succ]); (try simp only [List.set_cons_zero])
            refine wpAnyH_take (i := 1) (v := ?_) opAt1 (by kernel_rfl) (by kernel_rfl) (by kernel_rfl) (fun _ _ _ h => h) (Or.inl ⟨by rfl, ?_⟩) hHeld ?_
            case refine_2 => (intro w hSw; (try dsimp only at hSw); go_simp; all_goals (with_reducible rfl))
            (try simp only [Act.put]); (try simp only [List.setIfInBounds_toArray]); (try simp only [List.set_cons_succ]); (try simp only [List.set_cons_zero])
            refine wpAnyH_take (i := 2) (v := ?_) opAt2 (by kernel_rfl) (by kernel_rfl) (by kernel_rfl) (fun _ _ _ h => h) (Or.inl ⟨by rfl, ?_⟩) hHeld ?_
            case refine_2 => (intro w hSw; (try dsimp only at hSw); go_simp; all_goals (with_reducible rfl))
            (try simp only [Act.put]); (try simp only [List.setIfInBounds_toArray]); (try simp only [List.set_cons_succ]); (try simp only [List.set_cons_zero])
            refine wpAnyH_take (i := 3) (v := ?_) opAt3 (by kernel_rfl) (by kernel_rfl) (by kernel_rfl) (fun _ _ _ h => h) (Or.inl ⟨by rfl, ?_⟩) hHeld ?_
            case refine_2 => (intro w hSw; (try dsimp only at hSw); go_simp; all_goals (with_reducible rfl))
            (try simp only [Act.put]); (try simp only [List.setIfInBounds_toArray]); (try simp only [List.set_cons_succ]); (try simp only [List.set_cons_zero])
            refine wpAnyH_take (i := 4) (v := ?_) opAt4 (by kernel_rfl) (by kernel_rfl) (by kernel_rfl) (fun _ _ _ h => h) (Or.inl ⟨by rfl, ?_⟩) hHeld ?_
            case refine_2 => (intro w hSw; (try dsimp only at hSw); go_simp; all_goals (with_reducible rfl))
            (try simp only [Act.put]); (try simp only [List.setIfInBounds_toArray]); (try simp only [List.set_cons_succ]); (try simp only [List.set_cons_zero])
            refine wpAnyH_take (i := 5) (v := ?_) opAt5 (by kernel_rfl) (by kernel_rfl) (by kernel_rfl) (fun _ _ _ h => h) (Or.inl ⟨by rfl, ?_⟩) hHeld ?_
            case refine_2 => (intro w hSw; (try dsimp only at hSw); go_simp; all_goals (with_reducible rfl))
            (try simp only [Act.put]); (try simp only [List.setIfInBounds_toArray]); (try simp only [List.set_cons_succ]); (try simp only [List.set_cons_zero])
            refine wpAnyH_take (i := 6) (v := ?_) opAt6 (by kernel_rfl) (by kernel_rfl) (by kernel_rfl) (fun _ _ _ h => h) (Or.inl ⟨by rfl, ?_⟩) hHeld ?_
            case refine_2 => (intro w hSw; (try dsimp only at hSw); go_simp; all_goals (with_reducible rfl))
            (try simp only [Act.put]); (try simp only [List.setIfInBounds_toArray]); (try simp only [List.set_cons_succ]); (try simp only [List.set_cons_zero])
            refine wpAnyH_take (i := 7) (v := ?_) opAt7 (by kernel_rfl) (by kernel_rfl) (by kernel_rfl) (fun _ _ _ h => h) (Or.inl ⟨by rfl, ?_⟩) hHeld ?_
            case refine_2 => (intro w hSw; (try dsimp only at hSw); go_simp; all_goals (with_reducible rfl))
            (try simp only [Act.put]); (try simp only [List.setIfInBounds_toArray]); (try simp only [List.set_cons_succ]); (try simp only [List.set_cons_zero])
            refine wpAnyH_take (i := 8) (v := ?_) opAt8 (by kernel_rfl) (by kernel_rfl) (by kernel_rfl) (fun _ _ _ h => h) (Or.inl ⟨by rfl, ?_⟩) hHeld ?_
            case refine_2 => (intro w hSw; (try dsimp only at hSw); go_simp; all_goals (with_reducible rfl))
            (try simp only [Act.put]); (try simp only [List.setIfInBounds_toArray]); (try simp only [List.set_cons_succ]); (try simp only [List.set_cons_zero])
            refine wpAnyH_take (i := 9) (v := ?_) opAt9 (by kernel_rfl) (by kernel_rfl) (by kernel_rfl) (fun _ _ _ h => h) (Or.inl ⟨by rfl, ?_⟩) hHeld ?_
            case refine_2 => (intro w hSw; (try dsimp only at hSw); go_simp; all_goals (with_reducible rfl))
            (try simp only [Act.put]); (try simp only [List.setIfInBounds_toArray]); (try simp only [List.set_cons_succ]); (try simp only [List.set_cons_zero])
            refine wpAnyH_take (i := 10) (v := ?_) opAt10 (by kernel_rfl) (by kernel_rfl) (by kernel_rfl) (fun _ _ _ h => h) (Or.inl ⟨by rfl, ?_⟩) hHeld ?_
            case refine_2 => (intro w hSw; (try dsimp only at hSw); go_simp; all_goals (with_reducible rfl))
            (try simp only [Act.put]); (try simp only [List.setIfInBounds_toArray]); (try simp only [List.set_cons_succ]); (try simp only [List.set_cons_zero])
            refine wpAnyH_take (i := 11) opAt11 (by kernel_rfl) (by kernel_rfl) (by kernel_rfl) (fun _ _ _ h => h) (Or.inr ⟨by rfl, rfl⟩) hHeld ?_
            (try simp only [Act.put]); (try simp only [List.setIfInBounds_toArray]); (try simp only [List.set_cons_succ]); (try simp only [List.set_cons_zero])
            refine wpAnyH_take (i := 12) opAt12 (by kernel_rfl) (by kernel_rfl) (by kernel_rfl) (fun _ _ _ h => h) (Or.inr ⟨by rfl, rfl⟩) hHeld ?_
            (try simp only [Act.put]); (try simp only [List.setIfInBounds_toArray]); (try simp only [List.set_cons_succ]); (try simp only [List.set_cons_zero])
            refine wpAnyH_take (i := 13) opAt13 (by kernel_rfl) (by kernel_rfl) (by kernel_rfl) (fun _ _ _ h => h) (Or.inr ⟨by rfl, rfl⟩) hHeld ?_
            (try simp only [Act.put]); (try simp only [List.setIfInBounds_toArray]); (try simp only [List.set_cons_succ]); (try simp only [List.set_cons_zero])
            refine wpAnyH_take (i := 14) opAt14 (by kernel_rfl) (by kernel_rfl) (by kernel_rfl) (fun _ _ _ h => h) (Or.inr ⟨by rfl, rfl⟩) hHeld ?_
            (try simp only [Act.put]); (try simp only [List.setIfInBounds_toArray]); (try simp only [List.set_cons_succ]); (try simp only [List.set_cons_zero])
            refine wpAnyH_take (i := 15) opAt15 (by kernel_rfl) (by kernel_rfl) (by kernel_rfl) (fun _ _ _ h => h) (Or.inr ⟨by rfl, rfl⟩) hHeld ?_
            (try simp only [Act.put]); (try simp only [List.setIfInBounds_toArray]); (try simp only [List.set_cons_succ]); (try simp only [List.set_cons_zero])
            refine wpAnyH_take (i := 16) opAt16 (by kernel_rfl) (by kernel_rfl) (by kernel_rfl) (fun _ _ _ h => h) (Or.inr ⟨by rfl, rfl⟩) hHeld ?_
            (try simp only [Act.put]); (try simp only [List.setIfInBounds_toArray]); (try simp only [List.set_cons_succ]); (try simp only [List.set_cons_zero])
            refine wpAnyH_take (i := 17) opAt17 (by kernel_rfl) (by kernel_rfl) (by kernel_rfl) (fun _ _ _ h => h) (Or.inr ⟨by rfl, rfl⟩) hHeld ?_
            (try simp only [Act.put]); (try simp only [List.setIfInBounds_toArray]); (try simp only [List.set_cons_succ]); (try simp only [List.set_cons_zero])
            refine wpAnyH_take (i := 18) opAt18 (by kernel_rfl) (by kernel_rfl) (by kernel_rfl) (fun _ _ _ h => h) (Or.inr ⟨by rfl, rfl⟩) hHeld ?_
            (try simp only [Act.put]); (try simp only [List.setIfInBounds_toArray]); (try simp only [List.set_cons_succ]); (try simp only [List.set_cons_zero])
            refine wpAnyH_take (i := 19) opAt19 (by kernel_rfl) (by kernel_rfl) (by kernel_rfl) (fun _ _ _ h => h) (Or.inr ⟨by rfl, rfl⟩) hHeld ?_
            (try simp only [Act.put]); (try simp only [List.setIfInBounds_toArray]); (try simp only [List.set_cons_succ]); (try simp only [List.set_cons_zero])
            refine wpAnyH_take (i := 20) opAt20 (by kernel_rfl) (by kernel_rfl) (by kernel_rfl) (fun _ _ _ h => h) (Or.inr ⟨by rfl, rfl⟩) hHeld ?_
            (try simp only [Act.put]); (try simp only [List.setIfInBounds_toArray]); (try simp only [List.set_cons_succ]); (try simp only [List.set_cons_zero])
            refine wpAnyH_take (i := 21) opAt21 (by kernel_rfl) (by kernel_rfl) (by kernel_rfl) (fun _ _ _ h => h) (Or.inr ⟨by rfl, rfl⟩) hHeld ?_
            (try simp only [Act.put]); (try simp only [List.setIfInBounds_toArray]); (try simp only [List.set_cons_succ]); (try simp only [List.set_cons_zero])
            refine wpAnyH_take (i := 22) opAt22 (by kernel_rfl) (by kernel_rfl) (by kernel_rfl) (fun _ _ _ h => h) (Or.inr ⟨by rfl, rfl⟩) hHeld ?_
            (try simp only [Act.put]); (try simp only [List.setIfInBounds_toArray]); (try simp only [List.set_cons_succ]); (try simp only [List.set_cons_zero])
            refine wpAnyH_take (i := 23) opAt23 (by kernel_rfl) (by kernel_rfl) (by kernel_rfl) (fun _ _ _ h => h) (Or.inr ⟨by rfl, rfl⟩) hHeld ?_
            (try simp only [Act.put]); (try simp only [List.setIfInBounds_toArray]); (try simp only [List.set_cons_succ]); (try simp only [List.set_cons_zero])
            refine wpAnyH_take (i := 24) opAt24 (by kernel_rfl) (by kernel_rfl) (by kernel_rfl) (fun _ _ _ h => h) (Or.inr ⟨by rfl, rfl⟩) hHeld ?_
            (try simp only [Act.put]); (try simp only [List.setIfInBounds_toArray]); (try simp only [List.set_cons_succ]); (try simp only [List.set_cons_zero])
            refine wpAnyH_take (i := 25) opAt25 (by kernel_rfl) (by kernel_rfl) (by kernel_rfl) (fun _ _ _ h => h) (Or.inr ⟨by rfl, rfl⟩) hHeld ?_
            (try simp only [Act.put]); (try simp only [List.setIfInBounds_toArray]); (try simp only [List.set_cons_succ]); (try simp only [List.set_cons_zero])
            refine wpAnyH_take (i := 26) opAt26 (by kernel_rfl) (by kernel_rfl) (by kernel_rfl) (fun _ _ _ h => h) (Or.inr ⟨by rfl, rfl⟩) hHeld ?_
            (try simp only [Act.put]); (try simp only [List.setIfInBounds_toArray]); (try simp only [List.set_cons_succ]); (try simp only [List.set_cons_zero])
            refine wpAnyH_take (i := 27) opAt27 (by kernel_rfl) (by kernel_rfl) (by kernel_rfl) (fun _ _ _ h => h) (Or.inr ⟨by rfl, rfl⟩) hHeld ?_
            (try simp only [Act.put]); (try simp only [List.setIfInBounds_toArray]); (try simp only [List.set_cons_succ]); (try simp only [List.set_cons_zero])
            refine wpAnyH_take (i := 28) opAt28 (by kernel_rfl) (by kernel_rfl) (by kernel_rfl) (fun _ _ _ h => h) (Or.inr ⟨by rfl, rfl⟩) hHeld ?_
            (try simp only [Act.put]); (try simp only [List.setIfInBounds_toArray]); (try simp only [List.set_cons_succ]); (try simp only [List.set_cons_zero])
            refine wpAnyH_take (i := 29) opAt29 (by kernel_rfl) (by kernel_rfl) (by kernel_rfl) (fun _ _ _ h => h) (Or.inr ⟨by rfl, rfl⟩) hHeld ?_
            (try simp only [Act.put]); (try simp only [List.setIfInBounds_toArray]); (try simp only [List.set_cons_succ]); (try simp only [List.set_cons_zero])
            refine wpAnyH_take (i := 30) opAt30 (by kernel_rfl) (by kernel_rfl) (by kernel_rfl) (fun _ _ _ h => h) (Or.inr ⟨by rfl, rfl⟩) hHeld ?_
            (try simp only [Act.put]); (try simp only [List.setIfInBounds_toArray]); (try simp only [List.set_cons_succ]); (try simp only [List.set_cons_zero])
            refine wpAnyH_take (i := 31) opAt31 (by kernel_rfl) (by kernel_rfl) (by kernel_rfl) (fun _ _ _ h => h) (Or.inr ⟨by rfl, rfl⟩) hHeld ?_
            (try simp only [Act.put]); (try simp only [List.setIfInBounds_toArray]); (try simp only [List.set_cons_succ]); (try simp only [List.set_cons_zero])
            refine wpAnyH_take (i := 32) opAt32 (by kernel_rfl) (by kernel_rfl) (by kernel_rfl) (fun _ _ _ h => h) (Or.inr ⟨by rfl, rfl⟩) hHeld ?_
            (try simp only [Act.put]); (try simp only [List.setIfInBounds_toArray]); (try simp only [List.set_cons_succ]); (try simp only [List.set_cons_zero])
            refine wpAnyH_take (i := 33) opAt33 (by kernel_rfl) (by kernel_rfl) (by kernel_rfl) (fun _ _ _ h => h) (Or.inr ⟨by rfl, rfl⟩) hHeld ?_
            (try simp only [Act.put]); (try simp only [List.setIfInBounds_toArray]); (try simp only [List.set_cons_succ]); (try simp only [List.set_cons_zero])
            refine wpAnyH_take (i := 34) opAt34 (by kernel_rfl) (by kernel_rfl) (by kernel_rfl) (fun _ _ _ h => h) (Or.inr ⟨by rfl, rfl⟩) hHeld ?_
            (try simp only [Act.put]); (try simp only [List.setIfInBounds_toArray]); (try simp only [List.set_cons_succ]); (try simp only [List.set_cons_zero])
            refine wpAnyH_take (i := 35) opAt35 (by kernel_rfl) (by kernel_rfl) (by kernel_rfl) (fun _ _ _ h => h) (Or.inr ⟨by rfl, rfl⟩) hHeld ?_
            (try simp only [Act.put]); (try simp only [List.setIfInBounds_toArray]); (try simp only [List.set_cons_succ]); (try simp only [List.set_cons_zero])
            refine wpAnyH_take (i := 36) (v := ?_) opAt36 (by kernel_rfl) (by kernel_rfl) (by kernel_rfl) (fun _ _ _ h => h) (Or.inl ⟨by rfl, ?_⟩) hHeld ?_
            case refine_2 => (intro w hSw; (try dsimp only at hSw); go_simp; all_goals (with_reducible rfl))
            (try simp only [Act.put]); (try simp only [List.setIfInBounds_toArray]); (try simp only [List.set_cons_succ]); (try simp only [List.set_cons_zero])
            refine wpAnyH_done (by kernel_rfl) ?_ _
            go_wp2
            go_roundg (gk - 1)
            case measure => have := JK.out; omega
            case rel => exact ⟨k + 1, by have := JK.out; omega, by go_num, by rw [B2.out, Z.out], KF.out.drew⟩
        · have hk2 : k = L.length := by omega
          have e3 : ¬ (k : Int) < (L.length : Int) := by omega
          have hrl : rs.length = L.length := by rw [← RS.out, rests_length]
          have K2 := Lib.hid hk2
          rw [hk2]
          have O6 := Lib.hid (own_keptS H.out.out KF.out (fun _ _ f => f))
          have HRL := Lib.hid hrl
          cases hb : bestUp rs L.length with
          | none =>
            have hmn := MG.out
            rw [merge_none _ (by rw [hrl]; exact hb), List.append_nil] at hmn
            have MN := Lib.hid hmn
            simp only [bestInt]
            clear hb hmn hrl hk2
            go_wp2
            refine bodyPost_ret (v := _) (by simp [results, Try.results12, go_sem]; try rfl) rfl ?_
            exact ⟨H.out.kp.trans KF.out (fun _ _ f => f) (fun _ _ f => f), .inr ⟨by first | exact HA.out | exact List.all_eq_true.1 HA.out, _, rfl, by rw [← MN.out]; exact O6.out⟩⟩
          | some b =>
            obtain ⟨bb1, bb2, _⟩ := best_some rs _ b hb
            have hms := MG.out
            rw [merge_some' (by rw [hrl]; exact hb)] at hms
            have hbL : b < L.length := by omega
            rcases HR.out with h0 | ⟨g, o, rfl, hc⟩
            · rw [h0] at hbL; simp at hbL
            obtain ⟨RB, hRB⟩ : ∃ RB, nth L b = RB := ⟨_, rfl⟩
            have hRBk := nth_get L hbL
            rw [hRB] at hRBk
            obtain ⟨uB, huB, aoB, cB, rfl, hrB⟩ := hc b RB hRBk
            have KWW := Lib.hid (H.out.kp.trans KF.out (T := fun _ => False) (fun _ _ f => f) (fun _ _ f => f))
            have b1 := KWW.out.cell huB (fun f => f)
            obtain ⟨ab, hab⟩ : ∃ ab, nth ats b = ab := ⟨_, rfl⟩
            have b0 := KF.out.cell (H.out.at_ hbL) (fun f => f)
            rw [hab] at b0
            have hgB : nth rs b = RB.drop ab := by rw [← RS.out, rests_nth hbL, hRB, hab]
            have habl : ab < RB.length := by rw [hgB, List.length_drop] at bb2; omega
            rcases hrB with h0 | ⟨gB, oB, rfl, hcB⟩
            · rw [h0] at habl; simp at habl
            obtain ⟨y, hy⟩ : ∃ y, nth RB ab = y := ⟨_, rfl⟩
            have hyk := nth_get RB habl
            rw [hy] at hyk
            obtain ⟨q0, q1, q2⟩ := ReadsC.at hcB hyk
            have y0 := KWW.out.cell q0 (fun f => f)
            have y1 := KWW.out.cell q1 (fun f => f)
            have y2 := KWW.out.cell q2 (fun f => f)
            have hgl := World.block_lt_of_cell? _ _ huB
            have hgBl := World.block_lt_of_cell? _ _ q0
            simp only at hgl hgBl
            have ehb : hdR rs b = y := by unfold hdR; rw [hgB, nth_drop habl, hy]
            rw [ehb] at hms
            have i3' : (0 : Int) ≤ (b : Int) := by omega
            have i4 : (b : Int) < (L.length : Int) := by omega
            have i7 : (0 : Int) ≤ (ab : Int) := by omega
            have i8 : (ab : Int) < (RB.length : Int) := by omega
            have i9 : ¬ (b : Int) < 0 := by omega
            have hrlen : RB.length ≤ 1000 := HL.out RB (List.mem_of_getElem? hRBk)
            have MS := Lib.hid hms; have AB := Lib.hid hab; have RBH := Lib.hid hRB; have GB := Lib.hid hgB; have BB2 := Lib.hid bb2
            have hag : (Value.slice ao' pre.length cap').ownBlock ≠ some gA := H.out.ne
            have R6 := Lib.hid (own_keptS H.out.row KF.out (fun _ _ f => f))
            have hAlt := (R6.out.lt gA rfl).2
            have nA : ¬ (Value.slice ao' pre.length cap').ownBlock = some gA := hag
            have ng : ¬ (Value.slice ao' pre.length cap').ownBlock = some g := fun e => by have := (O6.out.lt _ e).1; omega
            have nB : ¬ (Value.slice ao' pre.length cap').ownBlock = some gB := fun e => by have := (O6.out.lt _ e).1; omega
            have wsz : w.heap.size ≤ wr.heap.size := KWW.out.size
            clear hcB q0 q1 q2 hyk hy ehb hgB hab hRB hRBk huB bb1 bb2 hb hc hms hk2 hag hrl
            simp only [bestInt]
            go_upto_region 13 with fail
            refine wp_region_held_drew (S := (fun w' => w'.cell? ⟨gA, b, none⟩ = some (.int .i64 ab) ∧ w'.cell? ⟨g, o + b, none⟩ = some (.slice (some ⟨gB, oB, none⟩) RB.length cB) ∧ w'.cell? ⟨gB, oB + ab * 3, none⟩ = some (.string y.k) ∧ w'.cell? ⟨gB, oB + ab * 3 + 1, none⟩ = some (.int .i64 y.s) ∧ w'.cell? ⟨gB, oB + ab * 3 + 2, none⟩ = some (.string y.v))) (by kernel_rfl) ?_ (fun hHeld => ?_)
            · exact ⟨b0, b1, y0, y1, y2⟩
            refine wpAnyH_take (i := 0) (v := ?_) opAt0 (by kernel_rfl) (by kernel_rfl) (by kernel_rfl) (fun _ _ _ h => h) (Or.inl ⟨by rfl, ?_⟩) hHeld ?_
            case refine_2 => (intro w hSw; (try dsimp only at hSw); go_simp; all_goals (with_reducible rfl))
            (try simp only [Act.put]); (try simp only [List.setIfInBounds_toArray]); (try simp only [List.set_cons_succ]); (try simp only [List.set_cons_zero])
            refine wpAnyH_take (i := 1) (v := ?_) opAt1 (by kernel_rfl) (by kernel_rfl) (by kernel_rfl) (fun _ _ _ h => h) (Or.inl ⟨by rfl, ?_⟩) hHeld ?_
            case refine_2 => (intro w hSw; (try dsimp only at hSw); go_simp; all_goals (with_reducible rfl))
            (try simp only [Act.put]); (try simp only [List.setIfInBounds_toArray]); (try simp only [List.set_cons_succ]); (try simp only [List.set_cons_zero])
            refine wpAnyH_take (i := 2) (v := ?_) opAt2 (by kernel_rfl) (by kernel_rfl) (by kernel_rfl) (fun _ _ _ h => h) (Or.inl ⟨by rfl, ?_⟩) hHeld ?_
            case refine_2 => (intro w hSw; (try dsimp only at hSw); go_simp; all_goals (with_reducible rfl))
            (try simp only [Act.put]); (try simp only [List.setIfInBounds_toArray]); (try simp only [List.set_cons_succ]); (try simp only [List.set_cons_zero])
            refine wpAnyH_take (i := 3) (v := ?_) opAt3 (by kernel_rfl) (by kernel_rfl) (by kernel_rfl) (fun _ _ _ h => h) (Or.inl ⟨by rfl, ?_⟩) hHeld ?_
            case refine_2 => (intro w hSw; (try dsimp only at hSw); go_simp; all_goals (with_reducible rfl))
            (try simp only [Act.put]); (try simp only [List.setIfInBounds_toArray]); (try simp only [List.set_cons_succ]); (try simp only [List.set_cons_zero])
            refine wpAnyH_take (i := 4) (v := ?_) opAt4 (by kernel_rfl) (by kernel_rfl) (by kernel_rfl) (fun _ _ _ h => h) (Or.inl ⟨by rfl, ?_⟩) hHeld ?_
            case refine_2 => (intro w hSw; (try dsimp only at hSw); go_simp; all_goals (with_reducible rfl))
            (try simp only [Act.put]); (try simp only [List.setIfInBounds_toArray]); (try simp only [List.set_cons_succ]); (try simp only [List.set_cons_zero])
            refine wpAnyH_take (i := 5) (v := ?_) opAt5 (by kernel_rfl) (by kernel_rfl) (by kernel_rfl) (fun _ _ _ h => h) (Or.inl ⟨by rfl, ?_⟩) hHeld ?_
            case refine_2 => (intro w hSw; (try dsimp only at hSw); go_simp; all_goals (with_reducible rfl))
            (try simp only [Act.put]); (try simp only [List.setIfInBounds_toArray]); (try simp only [List.set_cons_succ]); (try simp only [List.set_cons_zero])
            refine wpAnyH_take (i := 6) (v := ?_) opAt6 (by kernel_rfl) (by kernel_rfl) (by kernel_rfl) (fun _ _ _ h => h) (Or.inl ⟨by rfl, ?_⟩) hHeld ?_
            case refine_2 => (intro w hSw; (try dsimp only at hSw); go_simp; all_goals (with_reducible rfl))
            (try simp only [Act.put]); (try simp only [List.setIfInBounds_toArray]); (try simp only [List.set_cons_succ]); (try simp only [List.set_cons_zero])
            refine wpAnyH_take (i := 7) (v := ?_) opAt7 (by kernel_rfl) (by kernel_rfl) (by kernel_rfl) (fun _ _ _ h => h) (Or.inl ⟨by rfl, ?_⟩) hHeld ?_
            case refine_2 => (intro w hSw; (try dsimp only at hSw); go_simp; all_goals (with_reducible rfl))
            (try simp only [Act.put]); (try simp only [List.setIfInBounds_toArray]); (try simp only [List.set_cons_succ]); (try simp only [List.set_cons_zero])
            refine wpAnyH_take (i := 8) (v := ?_) opAt8 (by kernel_rfl) (by kernel_rfl) (by kernel_rfl) (fun _ _ _ h => h) (Or.inl ⟨by rfl, ?_⟩) hHeld ?_
            case refine_2 => (intro w hSw; (try dsimp only at hSw); go_simp; all_goals (with_reducible rfl))
            (try simp only [Act.put]); (try simp only [List.setIfInBounds_toArray]); (try simp only [List.set_cons_succ]); (try simp only [List.set_cons_zero])
            refine wpAnyH_take (i := 9) (v := ?_) opAt9 (by kernel_rfl) (by kernel_rfl) (by kernel_rfl) (fun _ _ _ h => h) (Or.inl ⟨by rfl, ?_⟩) hHeld ?_
            case refine_2 => (intro w hSw; (try dsimp only at hSw); go_simp; all_goals (with_reducible rfl))
            (try simp only [Act.put]); (try simp only [List.setIfInBounds_toArray]); (try simp only [List.set_cons_succ]); (try simp only [List.set_cons_zero])
            refine wpAnyH_take (i := 10) (v := ?_) opAt10 (by kernel_rfl) (by kernel_rfl) (by kernel_rfl) (fun _ _ _ h => h) (Or.inl ⟨by rfl, ?_⟩) hHeld ?_
            case refine_2 => (intro w hSw; (try dsimp only at hSw); go_simp; all_goals (with_reducible rfl))
            (try simp only [Act.put]); (try simp only [List.setIfInBounds_toArray]); (try simp only [List.set_cons_succ]); (try simp only [List.set_cons_zero])
            refine wpAnyH_ready (rs := [11]) (by kernel_rfl) (by simp) ?_
            refine AllReadyH.cons opAt11 (fun K hK => ?_) AllReadyH.nil
            go_simp
            skip
            refine hK.out _ _ ?_ (fun hHeld => ?_)
            · exact ⟨((Kept.refl (fun _ => False) wr.drew).alloc (Obj.cells #[Value.string y.k, Value.int .i64 y.s, Value.string y.v] 36)).cell hHeld.1 (fun f => f), ((Kept.refl (fun _ => False) wr.drew).alloc (Obj.cells #[Value.string y.k, Value.int .i64 y.s, Value.string y.v] 36)).cell hHeld.2.1 (fun f => f), ((Kept.refl (fun _ => False) wr.drew).alloc (Obj.cells #[Value.string y.k, Value.int .i64 y.s, Value.string y.v] 36)).cell hHeld.2.2.1 (fun f => f), ((Kept.refl (fun _ => False) wr.drew).alloc (Obj.cells #[Value.string y.k, Value.int .i64 y.s, Value.string y.v] 36)).cell hHeld.2.2.2.1 (fun f => f), ((Kept.refl (fun _ => False) wr.drew).alloc (Obj.cells #[Value.string y.k, Value.int .i64 y.s, Value.string y.v] 36)).cell hHeld.2.2.2.2 (fun f => f)⟩
            clear hK K
            (try simp only [Act.put]); (try simp only [List.setIfInBounds_toArray]); (try simp only [List.set_cons_succ]); (try simp only [List.set_cons_zero])
            refine wpAnyH_ready (rs := [12]) (by kernel_rfl) (by simp) ?_
            refine AllReadyH.cons opAt12 (fun K hK => ?_) AllReadyH.nil
            refine step_app (by rfl) _ _ 25 (by rfl) w.heap.size 36 i0 _ 3 40 Try.underlying25 hi0 hz0 hz1 hz2 (by rfl) (by decide) _ pre.length _ (by rfl) (World.ownsRow.alloc (World.ownsRow.drew O6.out) _) ⟨wr.heap.size, 0, none⟩ 1 1 [.string y.k, .int .i64 y.s, .string y.v] (by rfl) (by rfl) ?_ ?_ ?_ ?_ ?_ ?_
            · exact World.news_of_block (heap_alloc_new wr.drew _)
            · intro u hu; simp at hu; rcases hu with rfl | rfl | rfl <;> rfl
            · unfold maxLen; omega
            · omega
            · show w.heap.size ≤ (wr.drew.alloc _).heap.size; simp; omega
            intro ao5 cap5 w5 hown5 hgr5 hat5
            have KG := Lib.hid (grown_kept hgr5); have O5 := Lib.hid hown5; have A5 := Lib.hid hat5
            clear hown5 hgr5 hat5
            refine hK.out _ _ ?_ (fun hHeld => ?_)
            · exact ⟨KG.out.cell hHeld.1 nA, KG.out.cell hHeld.2.1 ng, KG.out.cell hHeld.2.2.1 nB, KG.out.cell hHeld.2.2.2.1 nB, KG.out.cell hHeld.2.2.2.2 nB⟩
            clear hK K
            (try simp only [Act.put]); (try simp only [List.setIfInBounds_toArray]); (try simp only [List.set_cons_succ]); (try simp only [List.set_cons_zero])
            refine wpAnyH_take (i := 13) (v := ?_) opAt13 (by kernel_rfl) (by kernel_rfl) (by kernel_rfl) (fun _ _ _ h => h) (Or.inl ⟨by rfl, ?_⟩) hHeld ?_
            case refine_2 => (intro w hSw; (try dsimp only at hSw); go_simp; all_goals (with_reducible rfl))
            (try simp only [Act.put]); (try simp only [List.setIfInBounds_toArray]); (try simp only [List.set_cons_succ]); (try simp only [List.set_cons_zero])
            refine wpAnyH_done (by kernel_rfl) ?_ _
            have z0 := hHeld.1
            have hfz := (own_keptS R6.out ((Kept.refl (fun _ => False) wr).drew.alloc (Obj.cells #[Value.string y.k, Value.int .i64 y.s, Value.string y.v] 36)) (fun _ _ f => f))
            have hfz5 := own_keptS hfz KG.out (fun c hc e => nA (by have h1 : gA = c := Option.some.inj hc; rw [h1]; exact e))
            have zf := hfz5.frozenAt b
            have R5 := Lib.hid hfz5
            clear hHeld hfz hfz5
            have hab5 := AB.out
            have hlen5 := H.out.len
            have hrs5 : restsOf L (ats.set b (ab + 1)) = rs.set b (nth rs b).tail := by rw [← hab5, rests_set hbL hlen5, RS.out]
            have htp := total_set (rs := rs) (b := b) (by rw [HRL.out]; exact hbL) BB2.out
            have gk1 : Kept (fun c => (Value.slice ao' pre.length cap').ownBlock = some c) wr w5 := ((Kept.refl (fun _ => False) wr).drew.alloc (Obj.cells #[Value.string y.k, Value.int .i64 y.s, Value.string y.v] 36)).trans KG.out (fun _ _ f => f.elim) (fun _ _ h => h)
            have hat : ∀ c, (Value.slice ao5 (pre.length + 1) cap5).ownBlock = some c → (Value.slice ao' pre.length cap').ownBlock = some c ∨ wr.heap.size ≤ c := by
              intro c hc
              rcases A5.out with e | e
              · exact .inl (e ▸ hc)
              · right; rw [hc] at e
                have h := Option.some.inj e
                have h2 : (wr.drew.alloc (Obj.cells #[Value.string y.k, Value.int .i64 y.s, Value.string y.v] 36)).heap.size = wr.heap.size + 1 := by show (wr.alloc _).heap.size = _; simp
                have h3 : (wr.alloc (Obj.cells #[Value.string y.k, Value.int .i64 y.s, Value.string y.v] 36)).drew.heap.size = wr.heap.size + 1 := by show (wr.alloc _).heap.size = _; simp
                omega
            have ne5 : (Value.slice ao5 (pre.length + 1) cap5).ownBlock ≠ some gA := fun e => by
              rcases hat gA e with h | h
              · exact nA h
              · omega
            have kall : Kept (fun _ => False) w (w5.setCell ⟨gA, b, none⟩ (.int .i64 ((ab + 1 : Nat) : Int))) :=
              Kept.setAt (fun hh => by omega) ((KWW.out.trans gk1 (fun _ _ f => f) (fun c hc e => by have := (O6.out.lt c e).1; omega)))
            have row5 := (R5.out.stored b (.int .i64 ((ab + 1 : Nat) : Int))).1
            have hmap : (ats.map (fun a : Nat => Value.int .i64 a)).set b (.int .i64 ((ab + 1 : Nat) : Int)) = (ats.set b (ab + 1)).map (fun a : Nat => Value.int .i64 a) := by rw [List.map_set]
            rw [hmap] at row5
            have e2 : cellsC (pre ++ [y]) = cellsC pre ++ [.string y.k, .int .i64 y.s, .string y.v] := by rw [cellsC_append]; rfl
            have e3 : (pre ++ [y]).length = pre.length + 1 := by simp
            have out5 : (w5.setCell ⟨gA, b, none⟩ (.int .i64 ((ab + 1 : Nat) : Int))).ownsRow w.heap.size 36 3 (.slice ao5 (pre.length + 1) cap5) (pre.length + 1) (cellsC (pre ++ [y])) := by
              refine ownsRow_setCell_other (v := .slice ao5 (pre.length + 1) cap5) (a := ⟨gA, b, none⟩) ?_ ne5 _
              rw [e2]; exact O5.out
            have REL := Lib.hid (show ∃ ats ao' cap' pre0, (Value.slice ao5 (pre.length + 1) cap5) = .slice ao' pre0.length cap' ∧ AllAt w L gA (w5.setCell ⟨gA, b, none⟩ (.int .i64 ((ab + 1 : Nat) : Int))) ats (.slice ao' pre0.length cap') pre0 ∧ total (restsOf L ats) = total rs - 1 ∧ pre0 ++ mergeF (total rs - 1) (restsOf L ats) = mergeL L from by
              refine ⟨ats.set b (ab + 1), ao5, cap5, pre ++ [y], by rw [e3], ⟨by simp [hlen5], fun i hi => ?_, kall, row5, by rw [e3]; exact out5, by rw [e3]; exact ne5⟩, by rw [hrs5]; omega, ?_⟩
              · rw [nth_set _ _ _ _ (by omega)]
                by_cases e : i = b
                · subst e; rw [if_pos rfl, RBH.out]; omega
                · rw [if_neg e]; exact H.out.le i hi
              · rw [hrs5, show total rs - 1 = total (rs.set b (nth rs b).tail) by omega, List.append_assoc]
                exact MS.out)
            clear row5 hmap out5 kall hat ne5 gk1 hrs5 e2 e3 hab5
            go_wp2
            go_roundg (total rs - 1)
            case measure => have := TT.out; omega
            case rel => exact REL.out
  · have HA := Lib.hid ha; clear ha
    go_enter Try.func12, Try.ntmps12
    go_wp2_with (go_at_call 26; refine MR.out.mono ?_; rw [HA.out]; rintro e w1 ⟨rfl, k1⟩; (have K1 := Lib.hid k1); clear k1)
    refine bodyPost_ret (v := _) (by simp [results, Try.results12, go_sem]; try rfl) rfl ?_
    exact ⟨K1.out, .inl ⟨HA.out, rfl⟩⟩
end Go.Proofs.Ytfhpjopdndnmgaa
