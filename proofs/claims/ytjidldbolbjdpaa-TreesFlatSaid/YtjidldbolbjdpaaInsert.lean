/- slices.insertionSortCmpFunc over spans. -/
import Derived.Test.YtjidldbolbjdpaaSw
namespace Go.Proofs.Ytjidldbolbjdpaa
open Go.RowKit

section
variable {α : Type} [Inhabited α]
def nth (l : List α) (i : Nat) : α := l.getD i default
def swapL (l : List α) (i j : Nat) : List α := (l.set i (nth l j)).set j (nth l i)
@[simp] theorem length_swapL (l : List α) (i j : Nat) : (swapL l i j).length = l.length := by simp [swapL]
theorem nth_get {l : List α} {k : Nat} (h : k < l.length) : l[k]? = some (nth l k) := by
  rw [List.getElem?_eq_getElem h]; simp [nth, h]
theorem nth_set (l : List α) (i k : Nat) (x : α) (hi : i < l.length) : nth (l.set i x) k = if k = i then x else nth l k := by
  unfold nth
  simp only [List.getD_eq_getElem?_getD, List.getElem?_set]
  by_cases h : k = i
  · subst h; simp [hi]
  · simp [h, Ne.symm h]
theorem nth_swap (l : List α) {i j : Nat} (hi : i < l.length) (hj : j < l.length) (k : Nat) : nth (swapL l i j) k = if k = j then nth l i else if k = i then nth l j else nth l k := by
  unfold swapL
  rw [nth_set _ _ _ _ (by simpa using hj), nth_set _ _ _ _ hi]
end
/-- The one at j goes forward as long as the one ahead of it has a greater ID. -/
def sinkF (a : Nat) (j : Nat) (L : List Spn) : List Spn :=
  if _h : a < j then (if (nth L j).id < (nth L (j - 1)).id then sinkF a (j - 1) (swapL L j (j - 1)) else L) else L
termination_by j
decreasing_by omega
def insF (a b : Nat) (i : Nat) (L : List Spn) : List Spn := if _h : i < b then insF a b (i + 1) (sinkF a i L) else L
termination_by b - i
decreasing_by omega
theorem sinkF_length (a : Nat) : ∀ (j : Nat) (L : List Spn), (sinkF a j L).length = L.length
  | j, L => by
    unfold sinkF
    split
    · split
      · rw [sinkF_length a (j - 1)]; simp
      · rfl
    · rfl
termination_by j => j
decreasing_by omega
theorem insF_length (a b : Nat) : ∀ (n i : Nat) (L : List Spn), b - i = n → (insF a b i L).length = L.length
  | 0, i, L, h => by unfold insF; rw [dif_neg (by omega)]
  | n + 1, i, L, h => by unfold insF; rw [dif_pos (by omega), insF_length a b n (i + 1) _ (by omega), sinkF_length]

def cmpV (bk : Nat) : Value := .func (.func 42) #[] #[.pointer (some ⟨bk, 0, none⟩)]
set_option maxHeartbeats 8000000 in
set_option maxRecDepth 100000 in
theorem insert_any {w : World} {base g n cap bk : Nat} {L : List Spn} (a b : Nat) (ho : w.ownsRow base 24 8 (.slice (some ⟨g, 0, none⟩) n cap) n (cellsS L)) (hl : L.length = n) (hab : a ≤ n) (hbn : b ≤ n) (hn : n ≤ 1000) (hk : w.cell? ⟨bk, 0, none⟩ = some (.func (.func 33) #[] #[])) (hne : bk ≠ g) :
    Calls Try.prog 51 #[.slice (some ⟨g, 0, none⟩) n cap, .int .i64 a, .int .i64 b, cmpV bk] w fun e w' => e = .returned (.tuple #[]) ∧ w'.ownsRow base 24 8 (.slice (some ⟨g, 0, none⟩) n cap) n (cellsS (insF a b (a + 1) L)) ∧ Kept (fun k => k = g) w w' := by
  have HO0 := Lib.hid ho; have HK0 := Lib.hid hk
  clear ho hk
  unfold cmpV
  go_enter Try.func51, Try.ntmps51
  go_wp2
  go_loopg [8] n (fun gh t wr => ∃ (i : Nat) (L1 : List Spn), i + gh = a + 1 + n ∧ a + 1 ≤ i ∧ t = .int .i64 i ∧ L1.length = n ∧ wr.ownsRow base 24 8 (.slice (some ⟨g, 0, none⟩) n cap) n (cellsS L1) ∧ insF a b i L1 = insF a b (a + 1) L ∧ Kept (fun k => k = g) w wr)
  case atStart => exact ⟨a + 1, L, by omega, by omega, by go_num, hl, HO0.out, rfl, Kept.refl _ _⟩
  case round =>
    obtain ⟨i, L1, hi, hai, rfl, hl1, ho1, ht1, k1⟩ := hrel
    have HO1 := Lib.hid ho1; have HT1 := Lib.hid ht1; have K1 := Lib.hid k1
    clear ho1 ht1 k1
    by_cases hib : i < b
    · have e1 : (i : Int) < (b : Int) := by omega
      have hstep : insF a b i L1 = insF a b (i + 1) (sinkF a i L1) := by rw [insF, dif_pos hib]
      have ST := Lib.hid hstep
      clear hstep
      go_wp2
      go_loopg [9] i (fun gh t wr => ∃ (j : Nat) (L2 : List Spn), j = gh ∧ j ≤ i ∧ t = .int .i64 j ∧ L2.length = n ∧ wr.ownsRow base 24 8 (.slice (some ⟨g, 0, none⟩) n cap) n (cellsS L2) ∧ sinkF a j L2 = sinkF a i L1 ∧ Kept (fun k => k = g) w wr)
      case atStart => exact ⟨i, L1, rfl, Nat.le_refl _, rfl, hl1, HO1.out, rfl, K1.out⟩
      case round =>
        obtain ⟨j, L2, hjg, hji, rfl, hl2, ho2, ht2, k2⟩ := hrel
        have JG := Lib.hid hjg
        clear hjg
        have HOj := Lib.hid ho2; have HT := Lib.hid ht2; have K2 := Lib.hid k2
        have hb0 := k2.cell HK0.out hne
        clear ho2 ht2 k2
        by_cases haj : a < j
        · obtain ⟨q, hq⟩ : ∃ q, j = q + 1 := ⟨j - 1, by omega⟩
          have hjl : j < L2.length := by omega
          have hql : q < L2.length := by omega
          obtain ⟨x, hx⟩ : ∃ x, nth L2 j = x := ⟨_, rfl⟩
          obtain ⟨y, hy⟩ : ∃ y, nth L2 q = y := ⟨_, rfl⟩
          have gx := nth_get hjl; have gy := nth_get hql
          rw [hx] at gx; rw [hy] at gy
          have rx := own_range HOj.out gx
          have ry := own_range HOj.out gy
          have d1 : decide (a < j) = true := by simp [haj]
          have d2 : decide ((a : Int) < (j : Int)) = true := by simp [haj]
          have i1 : (0 : Int) ≤ (j : Int) := by omega
          have i2 : (j : Int) < (n : Int) := by omega
          have i3 : (0 : Int) ≤ (q : Int) := by omega
          have i4 : (q : Int) < (n : Int) := by omega
          have e3 : IntKind.i64.wrap ((j : Int) - 1) = (q : Int) := by rw [show (j : Int) - 1 = (q : Int) by omega]; exact IntWalk.i64_in _ (by omega)
          have hsk : sinkF a j L2 = if x.id < y.id then sinkF a q (swapL L2 j q) else L2 := by
            rw [sinkF, dif_pos haj, show j - 1 = q by omega, hx, hy]
          have SK0 := Lib.hid hsk
          have HX := Lib.hid hx; have HY := Lib.hid hy; have HQ := Lib.hid hq; have GX := Lib.hid gx; have GY := Lib.hid gy
          clear hsk hx hy gx gy hq
          by_cases hlt : x.id < y.id
          · have ec : cmpI x.id y.id < 0 := by unfold cmpI; rw [if_pos hlt]; omega
            have SK := Lib.hid (SK0.out.trans (if_pos hlt))
            go_wp2
            refine wp_region_held_drew (S := (fun w' => w'.cell? ⟨bk, 0, none⟩ = some (.func (.func 33) #[] #[]) ∧ w'.rangeAt g (j * 8) x.cells ∧ w'.rangeAt g (q * 8) y.cells)) (by kernel_rfl) ?_ (fun hHeld => ?_)
            · exact ⟨hb0, rx, ry⟩
            refine wpAnyH_take (i := 0) (v := ?_) opAt0 (by kernel_rfl) (by kernel_rfl) (by kernel_rfl) (fun _ _ _ h => h) (Or.inl ⟨by rfl, ?_⟩) hHeld ?_
            case refine_2 => (intro w hSw; (try dsimp only at hSw); go_simp; all_goals (with_reducible rfl))
            (try simp only [Act.put]); (try simp only [List.setIfInBounds_toArray]); (try simp only [List.set_cons_succ]); (try simp only [List.set_cons_zero])
            refine wpAnyH_take (i := 1) (v := ?_) opAt1 (by kernel_rfl) (by kernel_rfl) (by kernel_rfl) (fun _ _ _ h => h) (Or.inl ⟨by rfl, ?_⟩) hHeld ?_
            case refine_2 => (intro w hSw; (try dsimp only at hSw); go_simp; all_goals (with_reducible rfl))
            (try simp only [Act.put]); (try simp only [List.setIfInBounds_toArray]); (try simp only [List.set_cons_succ]); (try simp only [List.set_cons_zero])
            refine wpAnyH_take (i := 2) (v := ?_) opAt2 (by kernel_rfl) (by kernel_rfl) (by kernel_rfl) (fun _ _ _ h => h) (Or.inl ⟨by rfl, ?_⟩) hHeld ?_
            case refine_2 => (intro w hSw; (try dsimp only at hSw); go_simp; all_goals (with_reducible rfl))
            (try simp only [Act.put]); (try simp only [List.setIfInBounds_toArray]); (try simp only [List.set_cons_succ]); (try simp only [List.set_cons_zero])
            refine wpAnyH_take (i := 3) (v := ?_) opAt3 (by kernel_rfl) (by kernel_rfl) (by kernel_rfl) (fun _ _ _ h => h) (Or.inl ⟨by rfl, ?_⟩) hHeld ?_
            case refine_2 => (intro w hSw; (try dsimp only at hSw); go_simp; all_goals (with_reducible rfl))
            (try simp only [Act.put]); (try simp only [List.setIfInBounds_toArray]); (try simp only [List.set_cons_succ]); (try simp only [List.set_cons_zero])
            refine wpAnyH_take (i := 4) (v := ?_) opAt4 (by kernel_rfl) (by kernel_rfl) (by kernel_rfl) (fun _ _ _ h => h) (Or.inl ⟨by rfl, ?_⟩) hHeld ?_
            case refine_2 => (intro w hSw; (try dsimp only at hSw); go_simp; all_goals (with_reducible rfl))
            (try simp only [Act.put]); (try simp only [List.setIfInBounds_toArray]); (try simp only [List.set_cons_succ]); (try simp only [List.set_cons_zero])
            refine wpAnyH_take (i := 5) (v := ?_) opAt5 (by kernel_rfl) (by kernel_rfl) (by kernel_rfl) (fun _ _ _ h => h) (Or.inl ⟨by rfl, ?_⟩) hHeld ?_
            case refine_2 => (intro w hSw; (try dsimp only at hSw); go_simp; all_goals (with_reducible rfl))
            (try simp only [Act.put]); (try simp only [List.setIfInBounds_toArray]); (try simp only [List.set_cons_succ]); (try simp only [List.set_cons_zero])
            refine wpAnyH_take (i := 6) (v := ?_) opAt6 (by kernel_rfl) (by kernel_rfl) (by kernel_rfl) (fun _ _ _ h => h) (Or.inl ⟨by rfl, ?_⟩) hHeld ?_
            case refine_2 => (intro w hSw; (try dsimp only at hSw); go_simp; all_goals (with_reducible rfl))
            (try simp only [Act.put]); (try simp only [List.setIfInBounds_toArray]); (try simp only [List.set_cons_succ]); (try simp only [List.set_cons_zero])
            refine wpAnyH_take (i := 7) (v := ?_) opAt7 (by kernel_rfl) (by kernel_rfl) (by kernel_rfl) (fun _ _ _ h => h) (Or.inl ⟨by rfl, ?_⟩) hHeld ?_
            case refine_2 => (intro w hSw; (try dsimp only at hSw); go_simp; all_goals (with_reducible rfl))
            (try simp only [Act.put]); (try simp only [List.setIfInBounds_toArray]); (try simp only [List.set_cons_succ]); (try simp only [List.set_cons_zero])
            refine wpAnyH_take (i := 8) (v := .agg x.cells.toArray) opAt8 (by kernel_rfl) (by kernel_rfl) (by kernel_rfl) (fun _ _ _ h => h) (yieldsIf_load_mid (by rfl) 24 _ (by rfl) g (j * 8) (by rfl) x.cells _ (fun w hS => hS.2.1) Try.underlying24 rfl info24) hHeld ?_
            (try simp only [Act.put]); (try simp only [List.setIfInBounds_toArray]); (try simp only [List.set_cons_succ]); (try simp only [List.set_cons_zero])
            refine wpAnyH_take (i := 9) (v := ?_) opAt9 (by kernel_rfl) (by kernel_rfl) (by kernel_rfl) (fun _ _ _ h => h) (Or.inl ⟨by rfl, ?_⟩) hHeld ?_
            case refine_2 => (intro w hSw; (try dsimp only at hSw); go_simp; all_goals (with_reducible rfl))
            (try simp only [Act.put]); (try simp only [List.setIfInBounds_toArray]); (try simp only [List.set_cons_succ]); (try simp only [List.set_cons_zero])
            refine wpAnyH_take (i := 10) (v := ?_) opAt10 (by kernel_rfl) (by kernel_rfl) (by kernel_rfl) (fun _ _ _ h => h) (Or.inl ⟨by rfl, ?_⟩) hHeld ?_
            case refine_2 => (intro w hSw; (try dsimp only at hSw); go_simp; all_goals (with_reducible rfl))
            (try simp only [Act.put]); (try simp only [List.setIfInBounds_toArray]); (try simp only [List.set_cons_succ]); (try simp only [List.set_cons_zero])
            refine wpAnyH_take (i := 11) (v := ?_) opAt11 (by kernel_rfl) (by kernel_rfl) (by kernel_rfl) (fun _ _ _ h => h) (Or.inl ⟨by rfl, ?_⟩) hHeld ?_
            case refine_2 => (intro w hSw; (try dsimp only at hSw); go_simp; all_goals (with_reducible rfl))
            (try simp only [Act.put]); (try simp only [List.setIfInBounds_toArray]); (try simp only [List.set_cons_succ]); (try simp only [List.set_cons_zero])
            refine wpAnyH_take (i := 12) (v := ?_) opAt12 (by kernel_rfl) (by kernel_rfl) (by kernel_rfl) (fun _ _ _ h => h) (Or.inl ⟨by rfl, ?_⟩) hHeld ?_
            case refine_2 => (intro w hSw; (try dsimp only at hSw); go_simp; all_goals (with_reducible rfl))
            (try simp only [Act.put]); (try simp only [List.setIfInBounds_toArray]); (try simp only [List.set_cons_succ]); (try simp only [List.set_cons_zero])
            refine wpAnyH_take (i := 13) (v := .agg y.cells.toArray) opAt13 (by kernel_rfl) (by kernel_rfl) (by kernel_rfl) (fun _ _ _ h => h) (yieldsIf_load_mid (by rfl) 24 _ (by rfl) g (q * 8) (by rfl) y.cells _ (fun w hS => hS.2.2) Try.underlying24 rfl info24) hHeld ?_
            (try simp only [Act.put]); (try simp only [List.setIfInBounds_toArray]); (try simp only [List.set_cons_succ]); (try simp only [List.set_cons_zero])
            refine wpAnyH_ready (rs := [14]) (by kernel_rfl) (by simp) ?_
            refine AllReadyH.cons opAt14 (fun K hK => ?_) AllReadyH.nil
            go_simp
            go_at_call 42; refine (cmp_call x y bk _ hHeld.1).mono ?_; rintro e w5 ⟨rfl, k5⟩; have K5 := Lib.hid k5; dsimp only
            refine hK.out _ _ ?_ (fun hHeld => ?_)
            · exact ⟨k5.cell hHeld.1 (fun f => f), fun k v hv => k5.cell (hHeld.2.1 k v hv) (fun f => f), fun k v hv => k5.cell (hHeld.2.2 k v hv) (fun f => f)⟩
            clear hK K
            (try simp only [Act.put]); (try simp only [List.setIfInBounds_toArray]); (try simp only [List.set_cons_succ]); (try simp only [List.set_cons_zero])
            refine wpAnyH_take (i := 15) (v := ?_) opAt15 (by kernel_rfl) (by kernel_rfl) (by kernel_rfl) (fun _ _ _ h => h) (Or.inl ⟨by rfl, ?_⟩) hHeld ?_
            case refine_2 => (intro w hSw; (try dsimp only at hSw); go_simp; all_goals (with_reducible rfl))
            (try simp only [Act.put]); (try simp only [List.setIfInBounds_toArray]); (try simp only [List.set_cons_succ]); (try simp only [List.set_cons_zero])
            refine wpAnyH_take (i := 16) (v := ?_) opAt16 (by kernel_rfl) (by kernel_rfl) (by kernel_rfl) (fun _ _ _ h => h) (Or.inl ⟨by rfl, ?_⟩) hHeld ?_
            case refine_2 => (intro w hSw; (try dsimp only at hSw); go_simp; all_goals (with_reducible rfl))
            (try simp only [Act.put]); (try simp only [List.setIfInBounds_toArray]); (try simp only [List.set_cons_succ]); (try simp only [List.set_cons_zero])
            refine wpAnyH_done (by kernel_rfl) ?_ _
            have HO := Lib.hid ((own_keptS HOj.out.drew K5.out (fun _ _ f => f)).drew)
            have rx := own_range HO.out GX.out
            have ry := own_range HO.out GY.out
            have HO2 := Lib.hid (own_set HO.out y hjl)
            have FO := Lib.hid (show ((w5.drew.setCells g (j * 8) y.cells).setCells g (q * 8) x.cells).ownsRow base 24 8 (.slice (some ⟨g, 0, none⟩) n cap) n (cellsS (swapL L2 j q)) from by
              have h := own_set HO2.out x (i := q) (by simpa using hql)
              unfold swapL
              rw [HX.out, HY.out]
              exact h)
            have KF6 := Lib.hid (Kept.setCells (S := fun k => k = g) (fun _ => rfl) x.cells (q * 8) (Kept.setCells (S := fun k => k = g) (fun _ => rfl) y.cells (j * 8) ((K2.out.drew.trans (K5.out.mono (fun _ _ f => f.elim) : Kept (fun k => k = g) wr.drew w5) (fun _ _ h => h) (fun _ _ h => h) : Kept (fun k => k = g) w w5).drew)))
            go_wp2
            refine wp_region_any (by kernel_rfl) ?_
            simp only [List.size_toArray, List.length_cons, List.length_nil, Nat.zero_add, Nat.reduceAdd]
            refine wpAny_take (i := 0) (v := ?_) opAt0 (by kernel_rfl) (by kernel_rfl) (by kernel_rfl) (fun _ _ _ h => h) (Or.inl ⟨by rfl, ?_⟩) ?_
            case refine_2 => (intro w; go_simp; all_goals (with_reducible rfl))
            (try simp only [Act.put]); (try simp only [List.setIfInBounds_toArray]); (try simp only [List.set_cons_succ]); (try simp only [List.set_cons_zero])
            refine wpAny_take (i := 1) (v := ?_) opAt1 (by kernel_rfl) (by kernel_rfl) (by kernel_rfl) (fun _ _ _ h => h) (Or.inl ⟨by rfl, ?_⟩) ?_
            case refine_2 => (intro w; go_simp; all_goals (with_reducible rfl))
            (try simp only [Act.put]); (try simp only [List.setIfInBounds_toArray]); (try simp only [List.set_cons_succ]); (try simp only [List.set_cons_zero])
            refine wpAny_take (i := 2) (v := ?_) opAt2 (by kernel_rfl) (by kernel_rfl) (by kernel_rfl) (fun _ _ _ h => h) (Or.inl ⟨by rfl, ?_⟩) ?_
            case refine_2 => (intro w; go_simp; all_goals (with_reducible rfl))
            (try simp only [Act.put]); (try simp only [List.setIfInBounds_toArray]); (try simp only [List.set_cons_succ]); (try simp only [List.set_cons_zero])
            refine wpAny_take (i := 3) (v := ?_) opAt3 (by kernel_rfl) (by kernel_rfl) (by kernel_rfl) (fun _ _ _ h => h) (Or.inl ⟨by rfl, ?_⟩) ?_
            case refine_2 => (intro w; go_simp; all_goals (with_reducible rfl))
            (try simp only [Act.put]); (try simp only [List.setIfInBounds_toArray]); (try simp only [List.set_cons_succ]); (try simp only [List.set_cons_zero])
            refine wpAny_take (i := 4) (v := ?_) opAt4 (by kernel_rfl) (by kernel_rfl) (by kernel_rfl) (fun _ _ _ h => h) (Or.inl ⟨by rfl, ?_⟩) ?_
            case refine_2 => (intro w; go_simp; all_goals (with_reducible rfl))
            (try simp only [Act.put]); (try simp only [List.setIfInBounds_toArray]); (try simp only [List.set_cons_succ]); (try simp only [List.set_cons_zero])
            refine wpAny_take (i := 5) (v := ?_) opAt5 (by kernel_rfl) (by kernel_rfl) (by kernel_rfl) (fun _ _ _ h => h) (Or.inl ⟨by rfl, ?_⟩) ?_
            case refine_2 => (intro w; go_simp; all_goals (with_reducible rfl))
            (try simp only [Act.put]); (try simp only [List.setIfInBounds_toArray]); (try simp only [List.set_cons_succ]); (try simp only [List.set_cons_zero])
            refine wpAny_take (i := 6) (v := ?_) opAt6 (by kernel_rfl) (by kernel_rfl) (by kernel_rfl) (fun _ _ _ h => h) (Or.inl ⟨by rfl, ?_⟩) ?_
            case refine_2 => (intro w; go_simp; all_goals (with_reducible rfl))
            (try simp only [Act.put]); (try simp only [List.setIfInBounds_toArray]); (try simp only [List.set_cons_succ]); (try simp only [List.set_cons_zero])
            refine wpAny_take (i := 7) (v := ?_) opAt7 (by kernel_rfl) (by kernel_rfl) (by kernel_rfl) (fun _ _ _ h => h) (Or.inl ⟨by rfl, ?_⟩) ?_
            case refine_2 => (intro w; go_simp; all_goals (with_reducible rfl))
            (try simp only [Act.put]); (try simp only [List.setIfInBounds_toArray]); (try simp only [List.set_cons_succ]); (try simp only [List.set_cons_zero])
            refine wpAny_take (i := 8) (v := ?_) opAt8 (by kernel_rfl) (by kernel_rfl) (by kernel_rfl) (fun _ _ _ h => h) (Or.inl ⟨by rfl, ?_⟩) ?_
            case refine_2 => (intro w; go_simp; all_goals (with_reducible rfl))
            (try simp only [Act.put]); (try simp only [List.setIfInBounds_toArray]); (try simp only [List.set_cons_succ]); (try simp only [List.set_cons_zero])
            refine wpAny_take (i := 10) (v := ?_) opAt10 (by kernel_rfl) (by kernel_rfl) (by kernel_rfl) (fun _ _ _ h => h) (Or.inl ⟨by rfl, ?_⟩) ?_
            case refine_2 => (intro w; go_simp; all_goals (with_reducible rfl))
            (try simp only [Act.put]); (try simp only [List.setIfInBounds_toArray]); (try simp only [List.set_cons_succ]); (try simp only [List.set_cons_zero])
            refine wpAny_take (i := 11) (v := ?_) opAt11 (by kernel_rfl) (by kernel_rfl) (by kernel_rfl) (fun _ _ _ h => h) (Or.inl ⟨by rfl, ?_⟩) ?_
            case refine_2 => (intro w; go_simp; all_goals (with_reducible rfl))
            (try simp only [Act.put]); (try simp only [List.setIfInBounds_toArray]); (try simp only [List.set_cons_succ]); (try simp only [List.set_cons_zero])
            refine wpAny_take (i := 12) (v := ?_) opAt12 (by kernel_rfl) (by kernel_rfl) (by kernel_rfl) (fun _ _ _ h => h) (Or.inl ⟨by rfl, ?_⟩) ?_
            case refine_2 => (intro w; go_simp; all_goals (with_reducible rfl))
            (try simp only [Act.put]); (try simp only [List.setIfInBounds_toArray]); (try simp only [List.set_cons_succ]); (try simp only [List.set_cons_zero])
            refine wpAny_ready (rs := [9, 13]) (by kernel_rfl) (by simp) ?_
            refine AllReady.cons opAt9 (fun K hK => ?_) ?_
            · refine step_load (by rfl) 24 _ (by rfl) g (q * 8) (by rfl) y.cells _ ry Try.underlying24 rfl info24 ?_
              refine hK _ _ ?_
              clear hK K
              (try simp only [Act.put]); (try simp only [List.setIfInBounds_toArray]); (try simp only [List.set_cons_succ]); (try simp only [List.set_cons_zero])
              refine wpAny_ready (rs := [13]) (by kernel_rfl) (by simp) ?_
              refine AllReady.cons opAt13 (fun K hK => ?_) AllReady.nil
              refine step_load (by rfl) 24 _ (by rfl) g (j * 8) (by rfl) x.cells _ rx Try.underlying24 rfl info24 ?_
              refine hK _ _ ?_
              clear hK K
              (try simp only [Act.put]); (try simp only [List.setIfInBounds_toArray]); (try simp only [List.set_cons_succ]); (try simp only [List.set_cons_zero])
              refine wpAny_take (i := 14) (v := ?_) opAt14 (by kernel_rfl) (by kernel_rfl) (by kernel_rfl) (fun _ _ _ h => h) (Or.inl ⟨by rfl, ?_⟩) ?_
              case refine_2 => (intro w; go_simp; all_goals (with_reducible rfl))
              (try simp only [Act.put]); (try simp only [List.setIfInBounds_toArray]); (try simp only [List.set_cons_succ]); (try simp only [List.set_cons_zero])
              refine wpAny_ready (rs := [15]) (by kernel_rfl) (by simp) ?_
              refine AllReady.cons opAt15 (fun K hK => ?_) AllReady.nil
              refine step_store (by rfl) 24 _ _ (by rfl) g (j * 8) y.cells (by rfl) (by rfl) (own_there HO.out hjl) info24 (cells_all y) ?_
              refine hK _ _ ?_
              clear hK K
              (try simp only [Act.put]); (try simp only [List.setIfInBounds_toArray]); (try simp only [List.set_cons_succ]); (try simp only [List.set_cons_zero])
              refine wpAny_take (i := 16) (v := ?_) opAt16 (by kernel_rfl) (by kernel_rfl) (by kernel_rfl) (fun _ _ _ h => h) (Or.inl ⟨by rfl, ?_⟩) ?_
              case refine_2 => (intro w; go_simp; all_goals (with_reducible rfl))
              (try simp only [Act.put]); (try simp only [List.setIfInBounds_toArray]); (try simp only [List.set_cons_succ]); (try simp only [List.set_cons_zero])
              generalize hW2 : World.setCells _ g (j * 8) y.cells = W2
              have HOb : Hid (W2.ownsRow base 24 8 (.slice (some ⟨g, 0, none⟩) n cap) n (cellsS (L2.set j y))) := Lib.hid (by rw [← hW2]; exact HO2.out)
              have FOb : Hid ((W2.setCells g (q * 8) x.cells).ownsRow base 24 8 (.slice (some ⟨g, 0, none⟩) n cap) n (cellsS (swapL L2 j q))) := Lib.hid (by rw [← hW2]; exact FO.out)
              have KFb : Hid (Kept (fun k => k = g) w (W2.setCells g (q * 8) x.cells)) := Lib.hid (by rw [← hW2]; exact KF6.out)
              clear hW2
              refine wpAny_last (i := 17) (o := ?o) ?hr ?ho ?hn ?h
              case ho => exact opAt17
              case hr => kernel_rfl
              case hn => kernel_rfl
              intro K hK
              refine step_store (by rfl) 24 _ _ (by rfl) g (q * 8) x.cells (by rfl) (by rfl) (own_there HOb.out (by simpa using hql)) info24 (cells_all x) ?_
              refine hK.out _ _ ?_
              clear hK K
              (try simp only [Act.put]); (try simp only [List.setIfInBounds_toArray]); (try simp only [List.set_cons_succ]); (try simp only [List.set_cons_zero])
              generalize hW3 : World.setCells W2 g (q * 8) x.cells = W3
              have FOc : Hid (W3.ownsRow base 24 8 (.slice (some ⟨g, 0, none⟩) n cap) n (cellsS (swapL L2 j q))) := Lib.hid (by rw [← hW3]; exact FOb.out)
              have KFc : Hid (Kept (fun k => k = g) w W3) := Lib.hid (by rw [← hW3]; exact KFb.out)
              clear hW3
              go_wp2
              go_roundg q
              case measure => have := JG.out; have := HQ.out; omega
              case rel => exact ⟨q, swapL L2 j q, rfl, by have := HQ.out; omega, by go_num, by simpa using hl2, FOc.out, SK.out.symm.trans HT.out, KFc.out⟩
            refine AllReady.cons opAt13 (fun K hK => ?_) AllReady.nil
            refine step_load (by rfl) 24 _ (by rfl) g (j * 8) (by rfl) x.cells _ rx Try.underlying24 rfl info24 ?_
            refine hK _ _ ?_
            clear hK K
            (try simp only [Act.put]); (try simp only [List.setIfInBounds_toArray]); (try simp only [List.set_cons_succ]); (try simp only [List.set_cons_zero])
            refine wpAny_ready (rs := [9]) (by kernel_rfl) (by simp) ?_
            refine AllReady.cons opAt9 (fun K hK => ?_) AllReady.nil
            refine step_load (by rfl) 24 _ (by rfl) g (q * 8) (by rfl) y.cells _ ry Try.underlying24 rfl info24 ?_
            refine hK _ _ ?_
            clear hK K
            (try simp only [Act.put]); (try simp only [List.setIfInBounds_toArray]); (try simp only [List.set_cons_succ]); (try simp only [List.set_cons_zero])
            refine wpAny_take (i := 14) (v := ?_) opAt14 (by kernel_rfl) (by kernel_rfl) (by kernel_rfl) (fun _ _ _ h => h) (Or.inl ⟨by rfl, ?_⟩) ?_
            case refine_2 => (intro w; go_simp; all_goals (with_reducible rfl))
            (try simp only [Act.put]); (try simp only [List.setIfInBounds_toArray]); (try simp only [List.set_cons_succ]); (try simp only [List.set_cons_zero])
            refine wpAny_ready (rs := [15]) (by kernel_rfl) (by simp) ?_
            refine AllReady.cons opAt15 (fun K hK => ?_) AllReady.nil
            refine step_store (by rfl) 24 _ _ (by rfl) g (j * 8) y.cells (by rfl) (by rfl) (own_there HO.out hjl) info24 (cells_all y) ?_
            refine hK _ _ ?_
            clear hK K
            (try simp only [Act.put]); (try simp only [List.setIfInBounds_toArray]); (try simp only [List.set_cons_succ]); (try simp only [List.set_cons_zero])
            refine wpAny_take (i := 16) (v := ?_) opAt16 (by kernel_rfl) (by kernel_rfl) (by kernel_rfl) (fun _ _ _ h => h) (Or.inl ⟨by rfl, ?_⟩) ?_
            case refine_2 => (intro w; go_simp; all_goals (with_reducible rfl))
            (try simp only [Act.put]); (try simp only [List.setIfInBounds_toArray]); (try simp only [List.set_cons_succ]); (try simp only [List.set_cons_zero])
            generalize hW2 : World.setCells _ g (j * 8) y.cells = W2
            have HOb : Hid (W2.ownsRow base 24 8 (.slice (some ⟨g, 0, none⟩) n cap) n (cellsS (L2.set j y))) := Lib.hid (by rw [← hW2]; exact HO2.out)
            have FOb : Hid ((W2.setCells g (q * 8) x.cells).ownsRow base 24 8 (.slice (some ⟨g, 0, none⟩) n cap) n (cellsS (swapL L2 j q))) := Lib.hid (by rw [← hW2]; exact FO.out)
            have KFb : Hid (Kept (fun k => k = g) w (W2.setCells g (q * 8) x.cells)) := Lib.hid (by rw [← hW2]; exact KF6.out)
            clear hW2
            refine wpAny_last (i := 17) (o := ?o) ?hr ?ho ?hn ?h
            case ho => exact opAt17
            case hr => kernel_rfl
            case hn => kernel_rfl
            intro K hK
            refine step_store (by rfl) 24 _ _ (by rfl) g (q * 8) x.cells (by rfl) (by rfl) (own_there HOb.out (by simpa using hql)) info24 (cells_all x) ?_
            refine hK.out _ _ ?_
            clear hK K
            (try simp only [Act.put]); (try simp only [List.setIfInBounds_toArray]); (try simp only [List.set_cons_succ]); (try simp only [List.set_cons_zero])
            generalize hW3 : World.setCells W2 g (q * 8) x.cells = W3
            have FOc : Hid (W3.ownsRow base 24 8 (.slice (some ⟨g, 0, none⟩) n cap) n (cellsS (swapL L2 j q))) := Lib.hid (by rw [← hW3]; exact FOb.out)
            have KFc : Hid (Kept (fun k => k = g) w W3) := Lib.hid (by rw [← hW3]; exact KFb.out)
            clear hW3
            go_wp2
            go_roundg q
            case measure => have := JG.out; have := HQ.out; omega
            case rel => exact ⟨q, swapL L2 j q, rfl, by have := HQ.out; omega, by go_num, by simpa using hl2, FOc.out, SK.out.symm.trans HT.out, KFc.out⟩
          · have ec : ¬ cmpI x.id y.id < 0 := by unfold cmpI; rw [if_neg hlt]; split <;> omega
            have SK := Lib.hid (SK0.out.trans (if_neg hlt))
            go_wp2
            refine wp_region_held_drew (S := (fun w' => w'.cell? ⟨bk, 0, none⟩ = some (.func (.func 33) #[] #[]) ∧ w'.rangeAt g (j * 8) x.cells ∧ w'.rangeAt g (q * 8) y.cells)) (by kernel_rfl) ?_ (fun hHeld => ?_)
            · exact ⟨hb0, rx, ry⟩
            refine wpAnyH_take (i := 0) (v := ?_) opAt0 (by kernel_rfl) (by kernel_rfl) (by kernel_rfl) (fun _ _ _ h => h) (Or.inl ⟨by rfl, ?_⟩) hHeld ?_
            case refine_2 => (intro w hSw; (try dsimp only at hSw); go_simp; all_goals (with_reducible rfl))
            (try simp only [Act.put]); (try simp only [List.setIfInBounds_toArray]); (try simp only [List.set_cons_succ]); (try simp only [List.set_cons_zero])
            refine wpAnyH_take (i := 1) (v := ?_) opAt1 (by kernel_rfl) (by kernel_rfl) (by kernel_rfl) (fun _ _ _ h => h) (Or.inl ⟨by rfl, ?_⟩) hHeld ?_
            case refine_2 => (intro w hSw; (try dsimp only at hSw); go_simp; all_goals (with_reducible rfl))
            (try simp only [Act.put]); (try simp only [List.setIfInBounds_toArray]); (try simp only [List.set_cons_succ]); (try simp only [List.set_cons_zero])
            refine wpAnyH_take (i := 2) (v := ?_) opAt2 (by kernel_rfl) (by kernel_rfl) (by kernel_rfl) (fun _ _ _ h => h) (Or.inl ⟨by rfl, ?_⟩) hHeld ?_
            case refine_2 => (intro w hSw; (try dsimp only at hSw); go_simp; all_goals (with_reducible rfl))
            (try simp only [Act.put]); (try simp only [List.setIfInBounds_toArray]); (try simp only [List.set_cons_succ]); (try simp only [List.set_cons_zero])
            refine wpAnyH_take (i := 3) (v := ?_) opAt3 (by kernel_rfl) (by kernel_rfl) (by kernel_rfl) (fun _ _ _ h => h) (Or.inl ⟨by rfl, ?_⟩) hHeld ?_
            case refine_2 => (intro w hSw; (try dsimp only at hSw); go_simp; all_goals (with_reducible rfl))
            (try simp only [Act.put]); (try simp only [List.setIfInBounds_toArray]); (try simp only [List.set_cons_succ]); (try simp only [List.set_cons_zero])
            refine wpAnyH_take (i := 4) (v := ?_) opAt4 (by kernel_rfl) (by kernel_rfl) (by kernel_rfl) (fun _ _ _ h => h) (Or.inl ⟨by rfl, ?_⟩) hHeld ?_
            case refine_2 => (intro w hSw; (try dsimp only at hSw); go_simp; all_goals (with_reducible rfl))
            (try simp only [Act.put]); (try simp only [List.setIfInBounds_toArray]); (try simp only [List.set_cons_succ]); (try simp only [List.set_cons_zero])
            refine wpAnyH_take (i := 5) (v := ?_) opAt5 (by kernel_rfl) (by kernel_rfl) (by kernel_rfl) (fun _ _ _ h => h) (Or.inl ⟨by rfl, ?_⟩) hHeld ?_
            case refine_2 => (intro w hSw; (try dsimp only at hSw); go_simp; all_goals (with_reducible rfl))
            (try simp only [Act.put]); (try simp only [List.setIfInBounds_toArray]); (try simp only [List.set_cons_succ]); (try simp only [List.set_cons_zero])
            refine wpAnyH_take (i := 6) (v := ?_) opAt6 (by kernel_rfl) (by kernel_rfl) (by kernel_rfl) (fun _ _ _ h => h) (Or.inl ⟨by rfl, ?_⟩) hHeld ?_
            case refine_2 => (intro w hSw; (try dsimp only at hSw); go_simp; all_goals (with_reducible rfl))
            (try simp only [Act.put]); (try simp only [List.setIfInBounds_toArray]); (try simp only [List.set_cons_succ]); (try simp only [List.set_cons_zero])
            refine wpAnyH_take (i := 7) (v := ?_) opAt7 (by kernel_rfl) (by kernel_rfl) (by kernel_rfl) (fun _ _ _ h => h) (Or.inl ⟨by rfl, ?_⟩) hHeld ?_
            case refine_2 => (intro w hSw; (try dsimp only at hSw); go_simp; all_goals (with_reducible rfl))
            (try simp only [Act.put]); (try simp only [List.setIfInBounds_toArray]); (try simp only [List.set_cons_succ]); (try simp only [List.set_cons_zero])
            refine wpAnyH_take (i := 8) (v := .agg x.cells.toArray) opAt8 (by kernel_rfl) (by kernel_rfl) (by kernel_rfl) (fun _ _ _ h => h) (yieldsIf_load_mid (by rfl) 24 _ (by rfl) g (j * 8) (by rfl) x.cells _ (fun w hS => hS.2.1) Try.underlying24 rfl info24) hHeld ?_
            (try simp only [Act.put]); (try simp only [List.setIfInBounds_toArray]); (try simp only [List.set_cons_succ]); (try simp only [List.set_cons_zero])
            refine wpAnyH_take (i := 9) (v := ?_) opAt9 (by kernel_rfl) (by kernel_rfl) (by kernel_rfl) (fun _ _ _ h => h) (Or.inl ⟨by rfl, ?_⟩) hHeld ?_
            case refine_2 => (intro w hSw; (try dsimp only at hSw); go_simp; all_goals (with_reducible rfl))
            (try simp only [Act.put]); (try simp only [List.setIfInBounds_toArray]); (try simp only [List.set_cons_succ]); (try simp only [List.set_cons_zero])
            refine wpAnyH_take (i := 10) (v := ?_) opAt10 (by kernel_rfl) (by kernel_rfl) (by kernel_rfl) (fun _ _ _ h => h) (Or.inl ⟨by rfl, ?_⟩) hHeld ?_
            case refine_2 => (intro w hSw; (try dsimp only at hSw); go_simp; all_goals (with_reducible rfl))
            (try simp only [Act.put]); (try simp only [List.setIfInBounds_toArray]); (try simp only [List.set_cons_succ]); (try simp only [List.set_cons_zero])
            refine wpAnyH_take (i := 11) (v := ?_) opAt11 (by kernel_rfl) (by kernel_rfl) (by kernel_rfl) (fun _ _ _ h => h) (Or.inl ⟨by rfl, ?_⟩) hHeld ?_
            case refine_2 => (intro w hSw; (try dsimp only at hSw); go_simp; all_goals (with_reducible rfl))
            (try simp only [Act.put]); (try simp only [List.setIfInBounds_toArray]); (try simp only [List.set_cons_succ]); (try simp only [List.set_cons_zero])
            refine wpAnyH_take (i := 12) (v := ?_) opAt12 (by kernel_rfl) (by kernel_rfl) (by kernel_rfl) (fun _ _ _ h => h) (Or.inl ⟨by rfl, ?_⟩) hHeld ?_
            case refine_2 => (intro w hSw; (try dsimp only at hSw); go_simp; all_goals (with_reducible rfl))
            (try simp only [Act.put]); (try simp only [List.setIfInBounds_toArray]); (try simp only [List.set_cons_succ]); (try simp only [List.set_cons_zero])
            refine wpAnyH_take (i := 13) (v := .agg y.cells.toArray) opAt13 (by kernel_rfl) (by kernel_rfl) (by kernel_rfl) (fun _ _ _ h => h) (yieldsIf_load_mid (by rfl) 24 _ (by rfl) g (q * 8) (by rfl) y.cells _ (fun w hS => hS.2.2) Try.underlying24 rfl info24) hHeld ?_
            (try simp only [Act.put]); (try simp only [List.setIfInBounds_toArray]); (try simp only [List.set_cons_succ]); (try simp only [List.set_cons_zero])
            refine wpAnyH_ready (rs := [14]) (by kernel_rfl) (by simp) ?_
            refine AllReadyH.cons opAt14 (fun K hK => ?_) AllReadyH.nil
            go_simp
            go_at_call 42; refine (cmp_call x y bk _ hHeld.1).mono ?_; rintro e w5 ⟨rfl, k5⟩; have K5 := Lib.hid k5; dsimp only
            refine hK.out _ _ ?_ (fun hHeld => ?_)
            · exact ⟨k5.cell hHeld.1 (fun f => f), fun k v hv => k5.cell (hHeld.2.1 k v hv) (fun f => f), fun k v hv => k5.cell (hHeld.2.2 k v hv) (fun f => f)⟩
            clear hK K
            (try simp only [Act.put]); (try simp only [List.setIfInBounds_toArray]); (try simp only [List.set_cons_succ]); (try simp only [List.set_cons_zero])
            refine wpAnyH_take (i := 15) (v := ?_) opAt15 (by kernel_rfl) (by kernel_rfl) (by kernel_rfl) (fun _ _ _ h => h) (Or.inl ⟨by rfl, ?_⟩) hHeld ?_
            case refine_2 => (intro w hSw; (try dsimp only at hSw); go_simp; all_goals (with_reducible rfl))
            (try simp only [Act.put]); (try simp only [List.setIfInBounds_toArray]); (try simp only [List.set_cons_succ]); (try simp only [List.set_cons_zero])
            refine wpAnyH_take (i := 16) (v := ?_) opAt16 (by kernel_rfl) (by kernel_rfl) (by kernel_rfl) (fun _ _ _ h => h) (Or.inl ⟨by rfl, ?_⟩) hHeld ?_
            case refine_2 => (intro w hSw; (try dsimp only at hSw); go_simp; all_goals (with_reducible rfl))
            (try simp only [Act.put]); (try simp only [List.setIfInBounds_toArray]); (try simp only [List.set_cons_succ]); (try simp only [List.set_cons_zero])
            refine wpAnyH_done (by kernel_rfl) ?_ _
            have HO := Lib.hid (own_keptS HOj.out.drew K5.out (fun _ _ f => f))
            have KF6 := Lib.hid (K2.out.drew.trans (K5.out.mono (fun _ _ f => f.elim) : Kept (fun k => k = g) wr.drew w5) (fun _ _ h => h) (fun _ _ h => h) : Kept (fun k => k = g) w w5)
            have hL : L2 = sinkF a i L1 := SK.out.symm.trans HT.out
            have LE := Lib.hid hL
            clear hL
            go_wp2
            go_roundg (a + 1 + n - (i + 1))
            case measure => omega
            case rel => exact ⟨i + 1, L2, by omega, by omega, by go_num, hl2, HO.out, by rw [LE.out, ← ST.out]; exact HT1.out, KF6.out⟩
        · have d1 : decide (a < j) = false := by simp [haj]
          have d2 : decide ((a : Int) < (j : Int)) = false := by simp; omega
          have SK := Lib.hid (show sinkF a j L2 = L2 by rw [sinkF, dif_neg haj])
          have hL : L2 = sinkF a i L1 := SK.out.symm.trans HT.out
          have LE := Lib.hid hL
          clear hL
          go_wp2
          refine wp_region_held_drew (S := (fun _ => True)) (by kernel_rfl) ?_ (fun hHeld => ?_)
          · trivial
          refine wpAnyH_take (i := 0) (v := ?_) opAt0 (by kernel_rfl) (by kernel_rfl) (by kernel_rfl) (fun _ _ _ h => h) (Or.inl ⟨by rfl, ?_⟩) hHeld ?_
          case refine_2 => (intro w hSw; (try dsimp only at hSw); go_simp; all_goals (with_reducible rfl))
          (try simp only [Act.put]); (try simp only [List.setIfInBounds_toArray]); (try simp only [List.set_cons_succ]); (try simp only [List.set_cons_zero])
          refine wpAnyH_take (i := 1) (v := ?_) opAt1 (by kernel_rfl) (by kernel_rfl) (by kernel_rfl) (fun _ _ _ h => h) (Or.inl ⟨by rfl, ?_⟩) hHeld ?_
          case refine_2 => (intro w hSw; (try dsimp only at hSw); go_simp; all_goals (with_reducible rfl))
          (try simp only [Act.put]); (try simp only [List.setIfInBounds_toArray]); (try simp only [List.set_cons_succ]); (try simp only [List.set_cons_zero])
          refine wpAnyH_take (i := 2) (v := ?_) opAt2 (by kernel_rfl) (by kernel_rfl) (by kernel_rfl) (fun _ _ _ h => h) (Or.inl ⟨by rfl, ?_⟩) hHeld ?_
          case refine_2 => (intro w hSw; (try dsimp only at hSw); go_simp; all_goals (with_reducible rfl))
          (try simp only [Act.put]); (try simp only [List.setIfInBounds_toArray]); (try simp only [List.set_cons_succ]); (try simp only [List.set_cons_zero])
          refine wpAnyH_take (i := 3) (v := ?_) opAt3 (by kernel_rfl) (by kernel_rfl) (by kernel_rfl) (fun _ _ _ h => h) (Or.inl ⟨by rfl, ?_⟩) hHeld ?_
          case refine_2 => (intro w hSw; (try dsimp only at hSw); go_simp; all_goals (with_reducible rfl))
          (try simp only [Act.put]); (try simp only [List.setIfInBounds_toArray]); (try simp only [List.set_cons_succ]); (try simp only [List.set_cons_zero])
          refine wpAnyH_take (i := 4) opAt4 (by kernel_rfl) (by kernel_rfl) (by kernel_rfl) (fun _ _ _ h => h) (Or.inr ⟨by rfl, rfl⟩) hHeld ?_
          (try simp only [Act.put]); (try simp only [List.setIfInBounds_toArray]); (try simp only [List.set_cons_succ]); (try simp only [List.set_cons_zero])
          refine wpAnyH_take (i := 5) opAt5 (by kernel_rfl) (by kernel_rfl) (by kernel_rfl) (fun _ _ _ h => h) (Or.inr ⟨by rfl, rfl⟩) hHeld ?_
          (try simp only [Act.put]); (try simp only [List.setIfInBounds_toArray]); (try simp only [List.set_cons_succ]); (try simp only [List.set_cons_zero])
          refine wpAnyH_take (i := 6) opAt6 (by kernel_rfl) (by kernel_rfl) (by kernel_rfl) (fun _ _ _ h => h) (Or.inr ⟨by rfl, rfl⟩) hHeld ?_
          (try simp only [Act.put]); (try simp only [List.setIfInBounds_toArray]); (try simp only [List.set_cons_succ]); (try simp only [List.set_cons_zero])
          refine wpAnyH_take (i := 7) opAt7 (by kernel_rfl) (by kernel_rfl) (by kernel_rfl) (fun _ _ _ h => h) (Or.inr ⟨by rfl, rfl⟩) hHeld ?_
          (try simp only [Act.put]); (try simp only [List.setIfInBounds_toArray]); (try simp only [List.set_cons_succ]); (try simp only [List.set_cons_zero])
          refine wpAnyH_take (i := 8) opAt8 (by kernel_rfl) (by kernel_rfl) (by kernel_rfl) (fun _ _ _ h => h) (Or.inr ⟨by rfl, rfl⟩) hHeld ?_
          (try simp only [Act.put]); (try simp only [List.setIfInBounds_toArray]); (try simp only [List.set_cons_succ]); (try simp only [List.set_cons_zero])
          refine wpAnyH_take (i := 9) opAt9 (by kernel_rfl) (by kernel_rfl) (by kernel_rfl) (fun _ _ _ h => h) (Or.inr ⟨by rfl, rfl⟩) hHeld ?_
          (try simp only [Act.put]); (try simp only [List.setIfInBounds_toArray]); (try simp only [List.set_cons_succ]); (try simp only [List.set_cons_zero])
          refine wpAnyH_take (i := 10) opAt10 (by kernel_rfl) (by kernel_rfl) (by kernel_rfl) (fun _ _ _ h => h) (Or.inr ⟨by rfl, rfl⟩) hHeld ?_
          (try simp only [Act.put]); (try simp only [List.setIfInBounds_toArray]); (try simp only [List.set_cons_succ]); (try simp only [List.set_cons_zero])
          refine wpAnyH_take (i := 11) opAt11 (by kernel_rfl) (by kernel_rfl) (by kernel_rfl) (fun _ _ _ h => h) (Or.inr ⟨by rfl, rfl⟩) hHeld ?_
          (try simp only [Act.put]); (try simp only [List.setIfInBounds_toArray]); (try simp only [List.set_cons_succ]); (try simp only [List.set_cons_zero])
          refine wpAnyH_take (i := 12) opAt12 (by kernel_rfl) (by kernel_rfl) (by kernel_rfl) (fun _ _ _ h => h) (Or.inr ⟨by rfl, rfl⟩) hHeld ?_
          (try simp only [Act.put]); (try simp only [List.setIfInBounds_toArray]); (try simp only [List.set_cons_succ]); (try simp only [List.set_cons_zero])
          refine wpAnyH_take (i := 13) opAt13 (by kernel_rfl) (by kernel_rfl) (by kernel_rfl) (fun _ _ _ h => h) (Or.inr ⟨by rfl, rfl⟩) hHeld ?_
          (try simp only [Act.put]); (try simp only [List.setIfInBounds_toArray]); (try simp only [List.set_cons_succ]); (try simp only [List.set_cons_zero])
          refine wpAnyH_take (i := 14) opAt14 (by kernel_rfl) (by kernel_rfl) (by kernel_rfl) (fun _ _ _ h => h) (Or.inr ⟨by rfl, rfl⟩) hHeld ?_
          (try simp only [Act.put]); (try simp only [List.setIfInBounds_toArray]); (try simp only [List.set_cons_succ]); (try simp only [List.set_cons_zero])
          refine wpAnyH_take (i := 15) opAt15 (by kernel_rfl) (by kernel_rfl) (by kernel_rfl) (fun _ _ _ h => h) (Or.inr ⟨by rfl, rfl⟩) hHeld ?_
          (try simp only [Act.put]); (try simp only [List.setIfInBounds_toArray]); (try simp only [List.set_cons_succ]); (try simp only [List.set_cons_zero])
          refine wpAnyH_take (i := 16) (v := ?_) opAt16 (by kernel_rfl) (by kernel_rfl) (by kernel_rfl) (fun _ _ _ h => h) (Or.inl ⟨by rfl, ?_⟩) hHeld ?_
          case refine_2 => (intro w hSw; (try dsimp only at hSw); go_simp; all_goals (with_reducible rfl))
          (try simp only [Act.put]); (try simp only [List.setIfInBounds_toArray]); (try simp only [List.set_cons_succ]); (try simp only [List.set_cons_zero])
          refine wpAnyH_done (by kernel_rfl) ?_ _
          go_wp2
          go_roundg (a + 1 + n - (i + 1))
          case measure => omega
          case rel => exact ⟨i + 1, L2, by omega, by omega, by go_num, hl2, HOj.out.drew, by rw [LE.out, ← ST.out]; exact HT1.out, K2.out.drew⟩
    · have e1 : ¬ (i : Int) < (b : Int) := by omega
      have hend : insF a b i L1 = L1 := by rw [insF, dif_neg hib]
      have EN := Lib.hid (hend.symm.trans HT1.out)
      clear hend
      go_wp2
      go_end0
      exact ⟨rfl, by rw [← EN.out]; exact HO1.out, K1.out⟩
end Go.Proofs.Ytjidldbolbjdpaa
