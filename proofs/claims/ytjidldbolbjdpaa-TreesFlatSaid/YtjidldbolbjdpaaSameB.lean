/- SameSpans; sameNodes; Same. -/
import Derived.Test.YtjidldbolbjdpaaSameA
namespace Go.Proofs.Ytjidldbolbjdpaa
open Go.RowKit

theorem neq24 (m k : Spn) (w : World) : (binOp .neq 24 (aggS m) (aggS k)).run Try.prog w = .ok (.bool (!eqS m k)) w := by
  have q := s24c
  by_cases a0 : m.tr = k.tr
  · by_cases a1 : m.id = k.id
    · by_cases a2 : m.pa = k.pa
      · by_cases a3 : m.se.toList = k.se.toList
        · by_cases a4 : m.ho.toList = k.ho.toList
          · by_cases a5 : m.st = k.st
            · by_cases a6 : m.du = k.du
              · by_cases a7 : m.no.toList = k.no.toList <;> simp [go_sem, eqS, q, a0, a1, a2, a3, a4, a5, a6, a7]
              · simp [go_sem, eqS, q, a0, a1, a2, a3, a4, a5, a6]
            · simp [go_sem, eqS, q, a0, a1, a2, a3, a4, a5]
          · simp [go_sem, eqS, q, a0, a1, a2, a3, a4]
        · simp [go_sem, eqS, q, a0, a1, a2, a3]
      · simp [go_sem, eqS, q, a0, a1, a2]
    · simp [go_sem, eqS, q, a0, a1]
  · simp [go_sem, eqS, q, a0]
theorem eqS_false {m k : Spn} : eqS m k = false ↔ m ≠ k := by
  rw [ne_eq, ← eqS_iff m k]; simp
noncomputable def sameB {α : Type} (a b : α) : Bool := @decide (a = b) (Classical.propDecidable _)
theorem sameB_true {α : Type} {a b : α} : sameB a b = true ↔ a = b := by unfold sameB; exact @decide_eq_true_iff _ (Classical.propDecidable _)
theorem sameB_false {α : Type} {a b : α} : sameB a b = false ↔ ¬ a = b := by unfold sameB; exact @decide_eq_false_iff_not _ (Classical.propDecidable _)
theorem sameB_refl {α : Type} (a : α) : sameB a a = true := sameB_true.2 rfl

set_option maxHeartbeats 4000000 in
set_option maxRecDepth 100000 in
theorem samespans_any (w : World) (va vb : Value) (A B : List Spn) (ha : ReadsS w va A) (hb : ReadsS w vb B) (hl : A.length ≤ 1000) :
    Calls Try.prog 12 #[va, vb] w fun e w' => e = .returned (.bool (sameB A B)) ∧ Kept (fun _ => False) w w' := by
  obtain ⟨ao, ca, rfl, ra⟩ := ha
  obtain ⟨bo, cb, rfl, rb⟩ := hb
  have RA := Lib.hid ra; have RB := Lib.hid rb
  clear ra rb
  by_cases hlen : A.length = B.length
  · obtain ⟨n, hn⟩ : ∃ n, A.length = n := ⟨_, rfl⟩
    rw [← hlen, hn]
    rw [hn] at hl
    have d0 : ((n : Int) != (n : Int)) = false := by simp
    have HA := Lib.hid hn; have HB := Lib.hid (show B.length = n from by omega)
    clear hlen hn
    have q0 := s24c
    have q1 := g24c
    have q2 := neq24
    go_enter Try.func12, Try.ntmps12
    go_wp2
    go_loopg [5] n (fun ghv s wr => ∃ (i : Nat), i + ghv = n ∧ s = .int .i64 i ∧ (∀ t, t < i → nth A t = nth B t) ∧ Kept (fun _ => False) w wr)
    case atStart => exact ⟨0, by omega, by go_num, fun t h => by omega, Kept.refl _ _⟩
    case round =>
      obtain ⟨i, hg1, rfl, heq, hk⟩ := hrel
      have G1 := Lib.hid hg1; have EQ := Lib.hid heq; have KK := Lib.hid hk
      clear hg1 heq hk
      by_cases hin : i < n
      · have i0 : (i : Int) < (n : Int) := by omega
        have i1 : (0 : Int) ≤ (i : Int) := by omega
        have e1 : IntKind.i64.wrap ((i : Int) + 1) = ((i + 1 : Nat) : Int) := IntWalk.i64_in _ (by omega)
        obtain ⟨g1, o1, rfl, hc1⟩ : ∃ g o, ao = some ⟨g, o, none⟩ ∧ ∀ j u, (cellsS A)[j]? = some u → w.cell? ⟨g, o + j, none⟩ = some u := by
          rcases RA.out with h | h
          · have := HA.out; subst h; simp at this; omega
          · exact h
        obtain ⟨g2, o2, rfl, hc2⟩ : ∃ g o, bo = some ⟨g, o, none⟩ ∧ ∀ j u, (cellsS B)[j]? = some u → w.cell? ⟨g, o + j, none⟩ = some u := by
          rcases RB.out with h | h
          · have := HB.out; subst h; simp at this; omega
          · exact h
        obtain ⟨x, hx⟩ : ∃ x, nth A i = x := ⟨_, rfl⟩
        obtain ⟨y, hy⟩ : ∃ x, nth B i = x := ⟨_, rfl⟩
        have gx := nth_get (l := A) (k := i) (by rw [HA.out]; exact hin)
        have gy := nth_get (l := B) (k := i) (by rw [HB.out]; exact hin)
        rw [hx] at gx
        rw [hy] at gy
        have rx := ReadsS.range (fun j u hu => KK.out.cell (hc1 j u hu) (fun f => f)) gx
        have ry := ReadsS.range (fun j u hu => KK.out.cell (hc2 j u hu) (fun f => f)) gy
        have HX := Lib.hid hx; have HY := Lib.hid hy
        clear hx hy gx gy hc1 hc2
        cases hxy : eqS x y with
        | true =>
          have EX := Lib.hid ((eqS_iff x y).1 hxy)
          go_wp2
          refine wp_region_held_drew (S := (fun w' => w'.rangeAt g1 (o1 + i * 8) x.cells ∧ w'.rangeAt g2 (o2 + i * 8) y.cells)) (by kernel_rfl) ?_ (fun hHeld => ?_)
          · exact ⟨rx, ry⟩
          refine wpAnyH_take (i := 0) (v := ?_) opAt0 (by kernel_rfl) (by kernel_rfl) (by kernel_rfl) (fun _ _ _ h => h) (Or.inl ⟨by rfl, ?_⟩) hHeld ?_
          case refine_2 => (intro w hSw; (try dsimp only at hSw); go_simp; all_goals (with_reducible rfl))
          (try simp only [Act.put]); (try simp only [List.setIfInBounds_toArray]); (try simp only [List.set_cons_succ]); (try simp only [List.set_cons_zero])
          refine wpAnyH_take (i := 1) (v := ?_) opAt1 (by kernel_rfl) (by kernel_rfl) (by kernel_rfl) (fun _ _ _ h => h) (Or.inl ⟨by rfl, ?_⟩) hHeld ?_
          case refine_2 => (intro w hSw; (try dsimp only at hSw); go_simp; all_goals (with_reducible rfl))
          (try simp only [Act.put]); (try simp only [List.setIfInBounds_toArray]); (try simp only [List.set_cons_succ]); (try simp only [List.set_cons_zero])
          refine wpAnyH_take (i := 2) (v := ?_) opAt2 (by kernel_rfl) (by kernel_rfl) (by kernel_rfl) (fun _ _ _ h => h) (Or.inl ⟨by rfl, ?_⟩) hHeld ?_
          case refine_2 => (intro w hSw; (try dsimp only at hSw); go_simp; all_goals (with_reducible rfl))
          (try simp only [Act.put]); (try simp only [List.setIfInBounds_toArray]); (try simp only [List.set_cons_succ]); (try simp only [List.set_cons_zero])
          refine wpAnyH_take (i := 3) (v := aggS x) opAt3 (by kernel_rfl) (by kernel_rfl) (by kernel_rfl) (fun _ _ _ h => h) (yieldsIf_load_mid (by rfl) 24 _ (by rfl) g1 (o1 + i * 8) (by rfl) x.cells _ (fun w hS => hS.1) Try.underlying24 rfl info24) hHeld ?_
          (try simp only [Act.put]); (try simp only [List.setIfInBounds_toArray]); (try simp only [List.set_cons_succ]); (try simp only [List.set_cons_zero])
          refine wpAnyH_take (i := 4) (v := ?_) opAt4 (by kernel_rfl) (by kernel_rfl) (by kernel_rfl) (fun _ _ _ h => h) (Or.inl ⟨by rfl, ?_⟩) hHeld ?_
          case refine_2 => (intro w hSw; (try dsimp only at hSw); go_simp; all_goals (with_reducible rfl))
          (try simp only [Act.put]); (try simp only [List.setIfInBounds_toArray]); (try simp only [List.set_cons_succ]); (try simp only [List.set_cons_zero])
          refine wpAnyH_take (i := 5) (v := ?_) opAt5 (by kernel_rfl) (by kernel_rfl) (by kernel_rfl) (fun _ _ _ h => h) (Or.inl ⟨by rfl, ?_⟩) hHeld ?_
          case refine_2 => (intro w hSw; (try dsimp only at hSw); go_simp; all_goals (with_reducible rfl))
          (try simp only [Act.put]); (try simp only [List.setIfInBounds_toArray]); (try simp only [List.set_cons_succ]); (try simp only [List.set_cons_zero])
          refine wpAnyH_take (i := 6) (v := ?_) opAt6 (by kernel_rfl) (by kernel_rfl) (by kernel_rfl) (fun _ _ _ h => h) (Or.inl ⟨by rfl, ?_⟩) hHeld ?_
          case refine_2 => (intro w hSw; (try dsimp only at hSw); go_simp; all_goals (with_reducible rfl))
          (try simp only [Act.put]); (try simp only [List.setIfInBounds_toArray]); (try simp only [List.set_cons_succ]); (try simp only [List.set_cons_zero])
          refine wpAnyH_take (i := 7) (v := aggS y) opAt7 (by kernel_rfl) (by kernel_rfl) (by kernel_rfl) (fun _ _ _ h => h) (yieldsIf_load_mid (by rfl) 24 _ (by rfl) g2 (o2 + i * 8) (by rfl) y.cells _ (fun w hS => hS.2) Try.underlying24 rfl info24) hHeld ?_
          (try simp only [Act.put]); (try simp only [List.setIfInBounds_toArray]); (try simp only [List.set_cons_succ]); (try simp only [List.set_cons_zero])
          refine wpAnyH_take (i := 8) (v := ?_) opAt8 (by kernel_rfl) (by kernel_rfl) (by kernel_rfl) (fun _ _ _ h => h) (Or.inl ⟨by rfl, ?_⟩) hHeld ?_
          case refine_2 => (intro w hSw; (try dsimp only at hSw); go_simp; all_goals (with_reducible rfl))
          (try simp only [Act.put]); (try simp only [List.setIfInBounds_toArray]); (try simp only [List.set_cons_succ]); (try simp only [List.set_cons_zero])
          refine wpAnyH_done (by kernel_rfl) ?_ _
          go_wp2
          go_roundg (n - (i + 1))
          case measure => have := G1.out; omega
          case rel => exact ⟨i + 1, by omega, by go_num, fun t ht => by
            by_cases c : t = i
            · subst c; rw [HX.out, HY.out]; exact EX.out
            · exact EQ.out t (by omega), KK.out.drew⟩
        | false =>
          have FF := Lib.hid (show sameB A B = false from sameB_false.2 (fun e => by
            have := HX.out
            rw [e, HY.out] at this
            exact (eqS_false.1 hxy) this.symm))
          go_wp2
          refine wp_region_held_drew (S := (fun w' => w'.rangeAt g1 (o1 + i * 8) x.cells ∧ w'.rangeAt g2 (o2 + i * 8) y.cells)) (by kernel_rfl) ?_ (fun hHeld => ?_)
          · exact ⟨rx, ry⟩
          refine wpAnyH_take (i := 0) (v := ?_) opAt0 (by kernel_rfl) (by kernel_rfl) (by kernel_rfl) (fun _ _ _ h => h) (Or.inl ⟨by rfl, ?_⟩) hHeld ?_
          case refine_2 => (intro w hSw; (try dsimp only at hSw); go_simp; all_goals (with_reducible rfl))
          (try simp only [Act.put]); (try simp only [List.setIfInBounds_toArray]); (try simp only [List.set_cons_succ]); (try simp only [List.set_cons_zero])
          refine wpAnyH_take (i := 1) (v := ?_) opAt1 (by kernel_rfl) (by kernel_rfl) (by kernel_rfl) (fun _ _ _ h => h) (Or.inl ⟨by rfl, ?_⟩) hHeld ?_
          case refine_2 => (intro w hSw; (try dsimp only at hSw); go_simp; all_goals (with_reducible rfl))
          (try simp only [Act.put]); (try simp only [List.setIfInBounds_toArray]); (try simp only [List.set_cons_succ]); (try simp only [List.set_cons_zero])
          refine wpAnyH_take (i := 2) (v := ?_) opAt2 (by kernel_rfl) (by kernel_rfl) (by kernel_rfl) (fun _ _ _ h => h) (Or.inl ⟨by rfl, ?_⟩) hHeld ?_
          case refine_2 => (intro w hSw; (try dsimp only at hSw); go_simp; all_goals (with_reducible rfl))
          (try simp only [Act.put]); (try simp only [List.setIfInBounds_toArray]); (try simp only [List.set_cons_succ]); (try simp only [List.set_cons_zero])
          refine wpAnyH_take (i := 3) (v := aggS x) opAt3 (by kernel_rfl) (by kernel_rfl) (by kernel_rfl) (fun _ _ _ h => h) (yieldsIf_load_mid (by rfl) 24 _ (by rfl) g1 (o1 + i * 8) (by rfl) x.cells _ (fun w hS => hS.1) Try.underlying24 rfl info24) hHeld ?_
          (try simp only [Act.put]); (try simp only [List.setIfInBounds_toArray]); (try simp only [List.set_cons_succ]); (try simp only [List.set_cons_zero])
          refine wpAnyH_take (i := 4) (v := ?_) opAt4 (by kernel_rfl) (by kernel_rfl) (by kernel_rfl) (fun _ _ _ h => h) (Or.inl ⟨by rfl, ?_⟩) hHeld ?_
          case refine_2 => (intro w hSw; (try dsimp only at hSw); go_simp; all_goals (with_reducible rfl))
          (try simp only [Act.put]); (try simp only [List.setIfInBounds_toArray]); (try simp only [List.set_cons_succ]); (try simp only [List.set_cons_zero])
          refine wpAnyH_take (i := 5) (v := ?_) opAt5 (by kernel_rfl) (by kernel_rfl) (by kernel_rfl) (fun _ _ _ h => h) (Or.inl ⟨by rfl, ?_⟩) hHeld ?_
          case refine_2 => (intro w hSw; (try dsimp only at hSw); go_simp; all_goals (with_reducible rfl))
          (try simp only [Act.put]); (try simp only [List.setIfInBounds_toArray]); (try simp only [List.set_cons_succ]); (try simp only [List.set_cons_zero])
          refine wpAnyH_take (i := 6) (v := ?_) opAt6 (by kernel_rfl) (by kernel_rfl) (by kernel_rfl) (fun _ _ _ h => h) (Or.inl ⟨by rfl, ?_⟩) hHeld ?_
          case refine_2 => (intro w hSw; (try dsimp only at hSw); go_simp; all_goals (with_reducible rfl))
          (try simp only [Act.put]); (try simp only [List.setIfInBounds_toArray]); (try simp only [List.set_cons_succ]); (try simp only [List.set_cons_zero])
          refine wpAnyH_take (i := 7) (v := aggS y) opAt7 (by kernel_rfl) (by kernel_rfl) (by kernel_rfl) (fun _ _ _ h => h) (yieldsIf_load_mid (by rfl) 24 _ (by rfl) g2 (o2 + i * 8) (by rfl) y.cells _ (fun w hS => hS.2) Try.underlying24 rfl info24) hHeld ?_
          (try simp only [Act.put]); (try simp only [List.setIfInBounds_toArray]); (try simp only [List.set_cons_succ]); (try simp only [List.set_cons_zero])
          refine wpAnyH_take (i := 8) (v := ?_) opAt8 (by kernel_rfl) (by kernel_rfl) (by kernel_rfl) (fun _ _ _ h => h) (Or.inl ⟨by rfl, ?_⟩) hHeld ?_
          case refine_2 => (intro w hSw; (try dsimp only at hSw); go_simp; all_goals (with_reducible rfl))
          (try simp only [Act.put]); (try simp only [List.setIfInBounds_toArray]); (try simp only [List.set_cons_succ]); (try simp only [List.set_cons_zero])
          refine wpAnyH_done (by kernel_rfl) ?_ _
          go_wp2
          go_ret
          exact ⟨by rw [FF.out]; rfl, KK.out.drew⟩
      · have i0 : ¬ (i : Int) < (n : Int) := by omega
        have TT := Lib.hid (show sameB A B = true from sameB_true.2 (ext_nth (by rw [HA.out, HB.out]) (fun k hk => EQ.out k (by rw [HA.out] at hk; omega))))
        go_wp2
        go_ret
        exact ⟨by rw [TT.out]; rfl, KK.out⟩
  · have d0 : ((A.length : Int) != (B.length : Int)) = true := by simp; omega
    have FF := Lib.hid (show sameB A B = false from sameB_false.2 (fun e => hlen (by rw [e])))
    clear hlen
    go_enter Try.func12, Try.ntmps12
    go_wp2
    go_ret
    exact ⟨by rw [FF.out]; rfl, Kept.refl _ _⟩

/-- No list in it is longer. -/
def Fr.wide (b : Nat) : Fr → Prop
  | .nil => True
  | .cons _ k r => k.len ≤ b ∧ k.wide b ∧ r.wide b
def Fr.size : Fr → Nat
  | .nil => 0
  | .cons _ k r => k.size + r.size + 1
theorem Fr.len_zero : ∀ {f : Fr}, f.len = 0 → f = .nil
  | .nil, _ => rfl
  | .cons _ _ r, h => by simp [Fr.len] at h
set_option maxHeartbeats 4000000 in
set_option maxRecDepth 100000 in
theorem samenodes_any (S1 S2 : Nat → Prop) : ∀ (N : Nat) (w : World) (va vb : Value) (f1 f2 : Fr), f1.size < N → f1.len ≤ 1000 ∧ f1.wide 1000 → ReadsF S1 w va f1 → ReadsF S2 w vb f2 →
    Calls Try.prog 22 #[va, vb] w fun e w' => e = .returned (.bool (sameB f1 f2)) ∧ Kept (fun _ => False) w w' := by
  intro N
  induction N with
  | zero => intro w va vb f1 f2 h; omega
  | succ N ih =>
    intro w va vb f1 f2 hsz hwd ha hb
    obtain ⟨hl, hwd⟩ := hwd
    obtain ⟨ao, ca, rfl, ra⟩ := ha
    obtain ⟨bo, cb, rfl, rb⟩ := hb
    have RA := Lib.hid ra; have RB := Lib.hid rb
    have SZ := Lib.hid hsz; have WD := Lib.hid hwd
    clear ra rb hsz hwd
    by_cases hlen : f1.len = f2.len
    · obtain ⟨n, hn⟩ : ∃ n, f1.len = n := ⟨_, rfl⟩
      rw [← hlen, hn]
      rw [hn] at hl
      have d0 : ((n : Int) != (n : Int)) = false := by simp
      have HA := Lib.hid hn; have HB := Lib.hid (show f2.len = n from by omega)
      clear hlen hn
      have q0 := s24c
      have q1 := g24c
      have q2 := neq24
      go_enter Try.func22, Try.ntmps22
      go_wp2
      go_loopg [5] n (fun ghv s wr => ∃ (i : Nat) (r1 r2 : Fr), i + ghv = n ∧ s = .int .i64 i ∧ i + r1.len = n ∧ i + r2.len = n ∧ r1.size ≤ f1.size ∧ r1.wide 1000 ∧ sameB f1 f2 = sameB r1 r2 ∧ (∀ g o, ao = some ⟨g, o, none⟩ → f1 = .nil ∨ RowF S1 wr g (o + i * 9) r1) ∧ (∀ g o, bo = some ⟨g, o, none⟩ → f2 = .nil ∨ RowF S2 wr g (o + i * 9) r2) ∧ Kept (fun _ => False) w wr)
      case atStart => exact ⟨0, f1, f2, by omega, by go_num, by have := HA.out; omega, by have := HB.out; omega, Nat.le_refl _, WD.out, rfl, fun g o e => RA.out.imp id (fun ⟨g', o', e', h⟩ => by rw [e] at e'; cases e'; rw [Nat.zero_mul, Nat.add_zero]; exact h), fun g o e => RB.out.imp id (fun ⟨g', o', e', h⟩ => by rw [e] at e'; cases e'; rw [Nat.zero_mul, Nat.add_zero]; exact h), Kept.refl _ _⟩
      case round =>
        obtain ⟨i, r1, r2, hg1, rfl, hl1, hl2, hs1, hw1, hsame, hr1, hr2, hk⟩ := hrel
        have G1 := Lib.hid hg1; have L1 := Lib.hid hl1; have L2 := Lib.hid hl2; have HS1 := Lib.hid hs1; have HW := Lib.hid hw1; have SAME := Lib.hid hsame; have HR1 := Lib.hid hr1; have HR2 := Lib.hid hr2; have KK := Lib.hid hk
        clear hg1 hl1 hl2 hs1 hw1 hsame hr1 hr2 hk
        by_cases hin : i < n
        · have i0 : (i : Int) < (n : Int) := by omega
          have i1 : (0 : Int) ≤ (i : Int) := by omega
          have e1 : IntKind.i64.wrap ((i : Int) + 1) = ((i + 1 : Nat) : Int) := IntWalk.i64_in _ (by omega)
          cases r1 with
          | nil => have := L1.out; simp [Fr.len] at this; omega
          | cons x k1 r1 =>
            cases r2 with
            | nil => have := L2.out; simp [Fr.len] at this; omega
            | cons y k2 r2 =>
              obtain ⟨g1, o1, rfl, _⟩ : ∃ g o, ao = some ⟨g, o, none⟩ ∧ RowF S1 w g o f1 := by
                rcases RA.out with h | h
                · have := HA.out; subst h; simp [Fr.len] at this; omega
                · exact h
              obtain ⟨g2, o2, rfl, _⟩ : ∃ g o, bo = some ⟨g, o, none⟩ ∧ RowF S2 w g o f2 := by
                rcases RB.out with h | h
                · have := HB.out; subst h; simp [Fr.len] at this; omega
                · exact h
              have nn1 : f1 ≠ .nil := fun e => by have := HA.out; rw [e] at this; simp [Fr.len] at this; omega
              have nn2 : f2 ≠ .nil := fun e => by have := HB.out; rw [e] at this; simp [Fr.len] at this; omega
              obtain ⟨_, rx, ⟨a1, c1, kx, rk1⟩, rr1⟩ := (HR1.out g1 o1 rfl).resolve_left nn1
              obtain ⟨_, ry, ⟨a2, c2, ky, rk2⟩, rr2⟩ := (HR2.out g2 o2 rfl).resolve_left nn2
              have RK1 := Lib.hid (show ReadsF S1 wr (.slice a1 k1.len c1) k1 from ⟨a1, c1, rfl, rk1⟩)
              have RK2 := Lib.hid (show ReadsF S2 wr (.slice a2 k2.len c2) k2 from ⟨a2, c2, rfl, rk2⟩)
              have RR1 := Lib.hid rr1; have RR2 := Lib.hid rr2
              have HSZ := Lib.hid (show k1.size < N from by have h1 := HS1.out; have h2 := SZ.out; simp only [Fr.size] at h1; omega)
              have HW1 := Lib.hid (show k1.len ≤ 1000 ∧ k1.wide 1000 from ⟨HW.out.1, HW.out.2.1⟩)
              obtain ⟨n1, hn1⟩ : ∃ n, k1.len = n := ⟨_, rfl⟩
              obtain ⟨n2, hn2⟩ : ∃ n, k2.len = n := ⟨_, rfl⟩
              rw [hn1] at kx RK1
              rw [hn2] at ky RK2
              clear rr1 rr2 rk1 rk2 nn1 nn2 hn1 hn2
              cases hxy : eqS x y with
              | true =>
                have EX := Lib.hid ((eqS_iff x y).1 hxy)
                cases hkk : sameB k1 k2 with
                | true =>
                  have HS := Lib.hid hkk
                  clear hkk
                  go_wp2
                  refine wp_region_held_drew (S := (fun w' => w'.rangeAt g1 (o1 + i * 9) x.cells ∧ w'.rangeAt g2 (o2 + i * 9) y.cells ∧ w'.cell? ⟨g1, o1 + i * 9 + 8, none⟩ = some (.slice a1 n1 c1) ∧ w'.cell? ⟨g2, o2 + i * 9 + 8, none⟩ = some (.slice a2 n2 c2))) (by kernel_rfl) ?_ (fun hHeld => ?_)
                  · exact ⟨rx, ry, kx, ky⟩
                  refine wpAnyH_take (i := 0) (v := ?_) opAt0 (by kernel_rfl) (by kernel_rfl) (by kernel_rfl) (fun _ _ _ h => h) (Or.inl ⟨by rfl, ?_⟩) hHeld ?_
                  case refine_2 => (intro w hSw; (try dsimp only at hSw); go_simp; all_goals (with_reducible rfl))
                  (try simp only [Act.put]); (try simp only [List.setIfInBounds_toArray]); (try simp only [List.set_cons_succ]); (try simp only [List.set_cons_zero])
                  refine wpAnyH_take (i := 1) (v := ?_) opAt1 (by kernel_rfl) (by kernel_rfl) (by kernel_rfl) (fun _ _ _ h => h) (Or.inl ⟨by rfl, ?_⟩) hHeld ?_
                  case refine_2 => (intro w hSw; (try dsimp only at hSw); go_simp; all_goals (with_reducible rfl))
                  (try simp only [Act.put]); (try simp only [List.setIfInBounds_toArray]); (try simp only [List.set_cons_succ]); (try simp only [List.set_cons_zero])
                  refine wpAnyH_take (i := 2) (v := ?_) opAt2 (by kernel_rfl) (by kernel_rfl) (by kernel_rfl) (fun _ _ _ h => h) (Or.inl ⟨by rfl, ?_⟩) hHeld ?_
                  case refine_2 => (intro w hSw; (try dsimp only at hSw); go_simp; all_goals (with_reducible rfl))
                  (try simp only [Act.put]); (try simp only [List.setIfInBounds_toArray]); (try simp only [List.set_cons_succ]); (try simp only [List.set_cons_zero])
                  refine wpAnyH_take (i := 3) (v := ?_) opAt3 (by kernel_rfl) (by kernel_rfl) (by kernel_rfl) (fun _ _ _ h => h) (Or.inl ⟨by rfl, ?_⟩) hHeld ?_
                  case refine_2 => (intro w hSw; (try dsimp only at hSw); go_simp; all_goals (with_reducible rfl))
                  (try simp only [Act.put]); (try simp only [List.setIfInBounds_toArray]); (try simp only [List.set_cons_succ]); (try simp only [List.set_cons_zero])
                  refine wpAnyH_take (i := 4) (v := aggS x) opAt4 (by kernel_rfl) (by kernel_rfl) (by kernel_rfl) (fun _ _ _ h => h) (yieldsIf_load_mid (by rfl) 24 _ (by rfl) g1 (o1 + i * 9) (by rfl) x.cells _ (fun w hS => hS.1) Try.underlying24 rfl info24) hHeld ?_
                  (try simp only [Act.put]); (try simp only [List.setIfInBounds_toArray]); (try simp only [List.set_cons_succ]); (try simp only [List.set_cons_zero])
                  refine wpAnyH_take (i := 5) (v := ?_) opAt5 (by kernel_rfl) (by kernel_rfl) (by kernel_rfl) (fun _ _ _ h => h) (Or.inl ⟨by rfl, ?_⟩) hHeld ?_
                  case refine_2 => (intro w hSw; (try dsimp only at hSw); go_simp; all_goals (with_reducible rfl))
                  (try simp only [Act.put]); (try simp only [List.setIfInBounds_toArray]); (try simp only [List.set_cons_succ]); (try simp only [List.set_cons_zero])
                  refine wpAnyH_take (i := 6) (v := ?_) opAt6 (by kernel_rfl) (by kernel_rfl) (by kernel_rfl) (fun _ _ _ h => h) (Or.inl ⟨by rfl, ?_⟩) hHeld ?_
                  case refine_2 => (intro w hSw; (try dsimp only at hSw); go_simp; all_goals (with_reducible rfl))
                  (try simp only [Act.put]); (try simp only [List.setIfInBounds_toArray]); (try simp only [List.set_cons_succ]); (try simp only [List.set_cons_zero])
                  refine wpAnyH_take (i := 7) (v := ?_) opAt7 (by kernel_rfl) (by kernel_rfl) (by kernel_rfl) (fun _ _ _ h => h) (Or.inl ⟨by rfl, ?_⟩) hHeld ?_
                  case refine_2 => (intro w hSw; (try dsimp only at hSw); go_simp; all_goals (with_reducible rfl))
                  (try simp only [Act.put]); (try simp only [List.setIfInBounds_toArray]); (try simp only [List.set_cons_succ]); (try simp only [List.set_cons_zero])
                  refine wpAnyH_take (i := 8) (v := ?_) opAt8 (by kernel_rfl) (by kernel_rfl) (by kernel_rfl) (fun _ _ _ h => h) (Or.inl ⟨by rfl, ?_⟩) hHeld ?_
                  case refine_2 => (intro w hSw; (try dsimp only at hSw); go_simp; all_goals (with_reducible rfl))
                  (try simp only [Act.put]); (try simp only [List.setIfInBounds_toArray]); (try simp only [List.set_cons_succ]); (try simp only [List.set_cons_zero])
                  refine wpAnyH_take (i := 9) (v := aggS y) opAt9 (by kernel_rfl) (by kernel_rfl) (by kernel_rfl) (fun _ _ _ h => h) (yieldsIf_load_mid (by rfl) 24 _ (by rfl) g2 (o2 + i * 9) (by rfl) y.cells _ (fun w hS => hS.2.1) Try.underlying24 rfl info24) hHeld ?_
                  (try simp only [Act.put]); (try simp only [List.setIfInBounds_toArray]); (try simp only [List.set_cons_succ]); (try simp only [List.set_cons_zero])
                  refine wpAnyH_take (i := 10) (v := ?_) opAt10 (by kernel_rfl) (by kernel_rfl) (by kernel_rfl) (fun _ _ _ h => h) (Or.inl ⟨by rfl, ?_⟩) hHeld ?_
                  case refine_2 => (intro w hSw; (try dsimp only at hSw); go_simp; all_goals (with_reducible rfl))
                  (try simp only [Act.put]); (try simp only [List.setIfInBounds_toArray]); (try simp only [List.set_cons_succ]); (try simp only [List.set_cons_zero])
                  refine wpAnyH_take (i := 11) (v := ?_) opAt11 (by kernel_rfl) (by kernel_rfl) (by kernel_rfl) (fun _ _ _ h => h) (Or.inl ⟨by rfl, ?_⟩) hHeld ?_
                  case refine_2 => (intro w hSw; (try dsimp only at hSw); go_simp; all_goals (with_reducible rfl))
                  (try simp only [Act.put]); (try simp only [List.setIfInBounds_toArray]); (try simp only [List.set_cons_succ]); (try simp only [List.set_cons_zero])
                  refine wpAnyH_take (i := 12) (v := ?_) opAt12 (by kernel_rfl) (by kernel_rfl) (by kernel_rfl) (fun _ _ _ h => h) (Or.inl ⟨by rfl, ?_⟩) hHeld ?_
                  case refine_2 => (intro w hSw; (try dsimp only at hSw); go_simp; all_goals (with_reducible rfl))
                  (try simp only [Act.put]); (try simp only [List.setIfInBounds_toArray]); (try simp only [List.set_cons_succ]); (try simp only [List.set_cons_zero])
                  refine wpAnyH_take (i := 13) (v := ?_) opAt13 (by kernel_rfl) (by kernel_rfl) (by kernel_rfl) (fun _ _ _ h => h) (Or.inl ⟨by rfl, ?_⟩) hHeld ?_
                  case refine_2 => (intro w hSw; (try dsimp only at hSw); go_simp; all_goals (with_reducible rfl))
                  (try simp only [Act.put]); (try simp only [List.setIfInBounds_toArray]); (try simp only [List.set_cons_succ]); (try simp only [List.set_cons_zero])
                  refine wpAnyH_take (i := 14) (v := ?_) opAt14 (by kernel_rfl) (by kernel_rfl) (by kernel_rfl) (fun _ _ _ h => h) (Or.inl ⟨by rfl, ?_⟩) hHeld ?_
                  case refine_2 => (intro w hSw; (try dsimp only at hSw); go_simp; all_goals (with_reducible rfl))
                  (try simp only [Act.put]); (try simp only [List.setIfInBounds_toArray]); (try simp only [List.set_cons_succ]); (try simp only [List.set_cons_zero])
                  refine wpAnyH_take (i := 15) (v := ?_) opAt15 (by kernel_rfl) (by kernel_rfl) (by kernel_rfl) (fun _ _ _ h => h) (Or.inl ⟨by rfl, ?_⟩) hHeld ?_
                  case refine_2 => (intro w hSw; (try dsimp only at hSw); go_simp; all_goals (with_reducible rfl))
                  (try simp only [Act.put]); (try simp only [List.setIfInBounds_toArray]); (try simp only [List.set_cons_succ]); (try simp only [List.set_cons_zero])
                  refine wpAnyH_take (i := 16) (v := ?_) opAt16 (by kernel_rfl) (by kernel_rfl) (by kernel_rfl) (fun _ _ _ h => h) (Or.inl ⟨by rfl, ?_⟩) hHeld ?_
                  case refine_2 => (intro w hSw; (try dsimp only at hSw); go_simp; all_goals (with_reducible rfl))
                  (try simp only [Act.put]); (try simp only [List.setIfInBounds_toArray]); (try simp only [List.set_cons_succ]); (try simp only [List.set_cons_zero])
                  refine wpAnyH_take (i := 17) (v := ?_) opAt17 (by kernel_rfl) (by kernel_rfl) (by kernel_rfl) (fun _ _ _ h => h) (Or.inl ⟨by rfl, ?_⟩) hHeld ?_
                  case refine_2 => (intro w hSw; (try dsimp only at hSw); go_simp; all_goals (with_reducible rfl))
                  (try simp only [Act.put]); (try simp only [List.setIfInBounds_toArray]); (try simp only [List.set_cons_succ]); (try simp only [List.set_cons_zero])
                  refine wpAnyH_take (i := 18) (v := ?_) opAt18 (by kernel_rfl) (by kernel_rfl) (by kernel_rfl) (fun _ _ _ h => h) (Or.inl ⟨by rfl, ?_⟩) hHeld ?_
                  case refine_2 => (intro w hSw; (try dsimp only at hSw); go_simp; all_goals (with_reducible rfl))
                  (try simp only [Act.put]); (try simp only [List.setIfInBounds_toArray]); (try simp only [List.set_cons_succ]); (try simp only [List.set_cons_zero])
                  refine wpAnyH_take (i := 19) (v := ?_) opAt19 (by kernel_rfl) (by kernel_rfl) (by kernel_rfl) (fun _ _ _ h => h) (Or.inl ⟨by rfl, ?_⟩) hHeld ?_
                  case refine_2 => (intro w hSw; (try dsimp only at hSw); go_simp; all_goals (with_reducible rfl))
                  (try simp only [Act.put]); (try simp only [List.setIfInBounds_toArray]); (try simp only [List.set_cons_succ]); (try simp only [List.set_cons_zero])
                  refine wpAnyH_take (i := 20) (v := ?_) opAt20 (by kernel_rfl) (by kernel_rfl) (by kernel_rfl) (fun _ _ _ h => h) (Or.inl ⟨by rfl, ?_⟩) hHeld ?_
                  case refine_2 => (intro w hSw; (try dsimp only at hSw); go_simp; all_goals (with_reducible rfl))
                  (try simp only [Act.put]); (try simp only [List.setIfInBounds_toArray]); (try simp only [List.set_cons_succ]); (try simp only [List.set_cons_zero])
                  refine wpAnyH_take (i := 21) (v := ?_) opAt21 (by kernel_rfl) (by kernel_rfl) (by kernel_rfl) (fun _ _ _ h => h) (Or.inl ⟨by rfl, ?_⟩) hHeld ?_
                  case refine_2 => (intro w hSw; (try dsimp only at hSw); go_simp; all_goals (with_reducible rfl))
                  (try simp only [Act.put]); (try simp only [List.setIfInBounds_toArray]); (try simp only [List.set_cons_succ]); (try simp only [List.set_cons_zero])
                  refine wpAnyH_ready (rs := [22]) (by kernel_rfl) (by simp) ?_
                  refine AllReadyH.cons opAt22 (fun K hK => ?_) AllReadyH.nil
                  go_simp
                  go_at_call 22; refine (ih _ _ _ k1 k2 (HSZ.out) (HW1.out) (RK1.out.kept (Kept.refl _ wr).drew) (RK2.out.kept (Kept.refl _ wr).drew)).mono ?_; rintro e w5 ⟨rfl, k5⟩; rw [HS.out]; have K5 := Lib.hid (keptFF (Kept.refl _ wr).drew k5); dsimp only
                  refine hK.out _ _ ?_ (fun hHeld => ?_)
                  · exact ⟨fun k v hv => k5.cell (hHeld.1 k v hv) (fun f => f), fun k v hv => k5.cell (hHeld.2.1 k v hv) (fun f => f), k5.cell hHeld.2.2.1 (fun f => f), k5.cell hHeld.2.2.2 (fun f => f)⟩
                  clear hK K
                  (try simp only [Act.put]); (try simp only [List.setIfInBounds_toArray]); (try simp only [List.set_cons_succ]); (try simp only [List.set_cons_zero])
                  refine wpAnyH_take (i := 23) (v := ?_) opAt23 (by kernel_rfl) (by kernel_rfl) (by kernel_rfl) (fun _ _ _ h => h) (Or.inl ⟨by rfl, ?_⟩) hHeld ?_
                  case refine_2 => (intro w hSw; (try dsimp only at hSw); go_simp; all_goals (with_reducible rfl))
                  (try simp only [Act.put]); (try simp only [List.setIfInBounds_toArray]); (try simp only [List.set_cons_succ]); (try simp only [List.set_cons_zero])
                  refine wpAnyH_take (i := 24) (v := ?_) opAt24 (by kernel_rfl) (by kernel_rfl) (by kernel_rfl) (fun _ _ _ h => h) (Or.inl ⟨by rfl, ?_⟩) hHeld ?_
                  case refine_2 => (intro w hSw; (try dsimp only at hSw); go_simp; all_goals (with_reducible rfl))
                  (try simp only [Act.put]); (try simp only [List.setIfInBounds_toArray]); (try simp only [List.set_cons_succ]); (try simp only [List.set_cons_zero])
                  refine wpAnyH_done (by kernel_rfl) ?_ _
                  go_wp2
                  go_roundg (n - (i + 1))
                  case measure => have := G1.out; omega
                  case rel => exact ⟨i + 1, r1, r2, by omega, by go_num, by have h := L1.out; simp only [Fr.len] at h; omega, by have h := L2.out; simp only [Fr.len] at h; omega, by have h := HS1.out; simp only [Fr.size] at h; omega, HW.out.2.2, by
                    rw [SAME.out]
                    have e1 := EX.out
                    have e2 := sameB_true.1 HS.out
                    rw [e1, e2, Bool.eq_iff_iff, sameB_true, sameB_true]
                    exact ⟨fun h => by cases h; rfl, fun h => by rw [h]⟩, fun g o e => .inr (by cases e; rw [Nat.succ_mul, ← Nat.add_assoc]; exact RowF.kept K5.out (fun _ _ _ f => f) (fun _ _ h => h) r1 RR1.out), fun g o e => .inr (by cases e; rw [Nat.succ_mul, ← Nat.add_assoc]; exact RowF.kept K5.out (fun _ _ _ f => f) (fun _ _ h => h) r2 RR2.out), keptFF KK.out K5.out⟩
                | false =>
                  have HS := Lib.hid hkk
                  clear hkk
                  have FF := Lib.hid (show sameB f1 f2 = false from by rw [SAME.out, sameB_false]; intro e; cases e; exact absurd rfl (sameB_false.1 HS.out))
                  go_wp2
                  refine wp_region_held_drew (S := (fun w' => w'.rangeAt g1 (o1 + i * 9) x.cells ∧ w'.rangeAt g2 (o2 + i * 9) y.cells ∧ w'.cell? ⟨g1, o1 + i * 9 + 8, none⟩ = some (.slice a1 n1 c1) ∧ w'.cell? ⟨g2, o2 + i * 9 + 8, none⟩ = some (.slice a2 n2 c2))) (by kernel_rfl) ?_ (fun hHeld => ?_)
                  · exact ⟨rx, ry, kx, ky⟩
                  refine wpAnyH_take (i := 0) (v := ?_) opAt0 (by kernel_rfl) (by kernel_rfl) (by kernel_rfl) (fun _ _ _ h => h) (Or.inl ⟨by rfl, ?_⟩) hHeld ?_
                  case refine_2 => (intro w hSw; (try dsimp only at hSw); go_simp; all_goals (with_reducible rfl))
                  (try simp only [Act.put]); (try simp only [List.setIfInBounds_toArray]); (try simp only [List.set_cons_succ]); (try simp only [List.set_cons_zero])
                  refine wpAnyH_take (i := 1) (v := ?_) opAt1 (by kernel_rfl) (by kernel_rfl) (by kernel_rfl) (fun _ _ _ h => h) (Or.inl ⟨by rfl, ?_⟩) hHeld ?_
                  case refine_2 => (intro w hSw; (try dsimp only at hSw); go_simp; all_goals (with_reducible rfl))
                  (try simp only [Act.put]); (try simp only [List.setIfInBounds_toArray]); (try simp only [List.set_cons_succ]); (try simp only [List.set_cons_zero])
                  refine wpAnyH_take (i := 2) (v := ?_) opAt2 (by kernel_rfl) (by kernel_rfl) (by kernel_rfl) (fun _ _ _ h => h) (Or.inl ⟨by rfl, ?_⟩) hHeld ?_
                  case refine_2 => (intro w hSw; (try dsimp only at hSw); go_simp; all_goals (with_reducible rfl))
                  (try simp only [Act.put]); (try simp only [List.setIfInBounds_toArray]); (try simp only [List.set_cons_succ]); (try simp only [List.set_cons_zero])
                  refine wpAnyH_take (i := 3) (v := ?_) opAt3 (by kernel_rfl) (by kernel_rfl) (by kernel_rfl) (fun _ _ _ h => h) (Or.inl ⟨by rfl, ?_⟩) hHeld ?_
                  case refine_2 => (intro w hSw; (try dsimp only at hSw); go_simp; all_goals (with_reducible rfl))
                  (try simp only [Act.put]); (try simp only [List.setIfInBounds_toArray]); (try simp only [List.set_cons_succ]); (try simp only [List.set_cons_zero])
                  refine wpAnyH_take (i := 4) (v := aggS x) opAt4 (by kernel_rfl) (by kernel_rfl) (by kernel_rfl) (fun _ _ _ h => h) (yieldsIf_load_mid (by rfl) 24 _ (by rfl) g1 (o1 + i * 9) (by rfl) x.cells _ (fun w hS => hS.1) Try.underlying24 rfl info24) hHeld ?_
                  (try simp only [Act.put]); (try simp only [List.setIfInBounds_toArray]); (try simp only [List.set_cons_succ]); (try simp only [List.set_cons_zero])
                  refine wpAnyH_take (i := 5) (v := ?_) opAt5 (by kernel_rfl) (by kernel_rfl) (by kernel_rfl) (fun _ _ _ h => h) (Or.inl ⟨by rfl, ?_⟩) hHeld ?_
                  case refine_2 => (intro w hSw; (try dsimp only at hSw); go_simp; all_goals (with_reducible rfl))
                  (try simp only [Act.put]); (try simp only [List.setIfInBounds_toArray]); (try simp only [List.set_cons_succ]); (try simp only [List.set_cons_zero])
                  refine wpAnyH_take (i := 6) (v := ?_) opAt6 (by kernel_rfl) (by kernel_rfl) (by kernel_rfl) (fun _ _ _ h => h) (Or.inl ⟨by rfl, ?_⟩) hHeld ?_
                  case refine_2 => (intro w hSw; (try dsimp only at hSw); go_simp; all_goals (with_reducible rfl))
                  (try simp only [Act.put]); (try simp only [List.setIfInBounds_toArray]); (try simp only [List.set_cons_succ]); (try simp only [List.set_cons_zero])
                  refine wpAnyH_take (i := 7) (v := ?_) opAt7 (by kernel_rfl) (by kernel_rfl) (by kernel_rfl) (fun _ _ _ h => h) (Or.inl ⟨by rfl, ?_⟩) hHeld ?_
                  case refine_2 => (intro w hSw; (try dsimp only at hSw); go_simp; all_goals (with_reducible rfl))
                  (try simp only [Act.put]); (try simp only [List.setIfInBounds_toArray]); (try simp only [List.set_cons_succ]); (try simp only [List.set_cons_zero])
                  refine wpAnyH_take (i := 8) (v := ?_) opAt8 (by kernel_rfl) (by kernel_rfl) (by kernel_rfl) (fun _ _ _ h => h) (Or.inl ⟨by rfl, ?_⟩) hHeld ?_
                  case refine_2 => (intro w hSw; (try dsimp only at hSw); go_simp; all_goals (with_reducible rfl))
                  (try simp only [Act.put]); (try simp only [List.setIfInBounds_toArray]); (try simp only [List.set_cons_succ]); (try simp only [List.set_cons_zero])
                  refine wpAnyH_take (i := 9) (v := aggS y) opAt9 (by kernel_rfl) (by kernel_rfl) (by kernel_rfl) (fun _ _ _ h => h) (yieldsIf_load_mid (by rfl) 24 _ (by rfl) g2 (o2 + i * 9) (by rfl) y.cells _ (fun w hS => hS.2.1) Try.underlying24 rfl info24) hHeld ?_
                  (try simp only [Act.put]); (try simp only [List.setIfInBounds_toArray]); (try simp only [List.set_cons_succ]); (try simp only [List.set_cons_zero])
                  refine wpAnyH_take (i := 10) (v := ?_) opAt10 (by kernel_rfl) (by kernel_rfl) (by kernel_rfl) (fun _ _ _ h => h) (Or.inl ⟨by rfl, ?_⟩) hHeld ?_
                  case refine_2 => (intro w hSw; (try dsimp only at hSw); go_simp; all_goals (with_reducible rfl))
                  (try simp only [Act.put]); (try simp only [List.setIfInBounds_toArray]); (try simp only [List.set_cons_succ]); (try simp only [List.set_cons_zero])
                  refine wpAnyH_take (i := 11) (v := ?_) opAt11 (by kernel_rfl) (by kernel_rfl) (by kernel_rfl) (fun _ _ _ h => h) (Or.inl ⟨by rfl, ?_⟩) hHeld ?_
                  case refine_2 => (intro w hSw; (try dsimp only at hSw); go_simp; all_goals (with_reducible rfl))
                  (try simp only [Act.put]); (try simp only [List.setIfInBounds_toArray]); (try simp only [List.set_cons_succ]); (try simp only [List.set_cons_zero])
                  refine wpAnyH_take (i := 12) (v := ?_) opAt12 (by kernel_rfl) (by kernel_rfl) (by kernel_rfl) (fun _ _ _ h => h) (Or.inl ⟨by rfl, ?_⟩) hHeld ?_
                  case refine_2 => (intro w hSw; (try dsimp only at hSw); go_simp; all_goals (with_reducible rfl))
                  (try simp only [Act.put]); (try simp only [List.setIfInBounds_toArray]); (try simp only [List.set_cons_succ]); (try simp only [List.set_cons_zero])
                  refine wpAnyH_take (i := 13) (v := ?_) opAt13 (by kernel_rfl) (by kernel_rfl) (by kernel_rfl) (fun _ _ _ h => h) (Or.inl ⟨by rfl, ?_⟩) hHeld ?_
                  case refine_2 => (intro w hSw; (try dsimp only at hSw); go_simp; all_goals (with_reducible rfl))
                  (try simp only [Act.put]); (try simp only [List.setIfInBounds_toArray]); (try simp only [List.set_cons_succ]); (try simp only [List.set_cons_zero])
                  refine wpAnyH_take (i := 14) (v := ?_) opAt14 (by kernel_rfl) (by kernel_rfl) (by kernel_rfl) (fun _ _ _ h => h) (Or.inl ⟨by rfl, ?_⟩) hHeld ?_
                  case refine_2 => (intro w hSw; (try dsimp only at hSw); go_simp; all_goals (with_reducible rfl))
                  (try simp only [Act.put]); (try simp only [List.setIfInBounds_toArray]); (try simp only [List.set_cons_succ]); (try simp only [List.set_cons_zero])
                  refine wpAnyH_take (i := 15) (v := ?_) opAt15 (by kernel_rfl) (by kernel_rfl) (by kernel_rfl) (fun _ _ _ h => h) (Or.inl ⟨by rfl, ?_⟩) hHeld ?_
                  case refine_2 => (intro w hSw; (try dsimp only at hSw); go_simp; all_goals (with_reducible rfl))
                  (try simp only [Act.put]); (try simp only [List.setIfInBounds_toArray]); (try simp only [List.set_cons_succ]); (try simp only [List.set_cons_zero])
                  refine wpAnyH_take (i := 16) (v := ?_) opAt16 (by kernel_rfl) (by kernel_rfl) (by kernel_rfl) (fun _ _ _ h => h) (Or.inl ⟨by rfl, ?_⟩) hHeld ?_
                  case refine_2 => (intro w hSw; (try dsimp only at hSw); go_simp; all_goals (with_reducible rfl))
                  (try simp only [Act.put]); (try simp only [List.setIfInBounds_toArray]); (try simp only [List.set_cons_succ]); (try simp only [List.set_cons_zero])
                  refine wpAnyH_take (i := 17) (v := ?_) opAt17 (by kernel_rfl) (by kernel_rfl) (by kernel_rfl) (fun _ _ _ h => h) (Or.inl ⟨by rfl, ?_⟩) hHeld ?_
                  case refine_2 => (intro w hSw; (try dsimp only at hSw); go_simp; all_goals (with_reducible rfl))
                  (try simp only [Act.put]); (try simp only [List.setIfInBounds_toArray]); (try simp only [List.set_cons_succ]); (try simp only [List.set_cons_zero])
                  refine wpAnyH_take (i := 18) (v := ?_) opAt18 (by kernel_rfl) (by kernel_rfl) (by kernel_rfl) (fun _ _ _ h => h) (Or.inl ⟨by rfl, ?_⟩) hHeld ?_
                  case refine_2 => (intro w hSw; (try dsimp only at hSw); go_simp; all_goals (with_reducible rfl))
                  (try simp only [Act.put]); (try simp only [List.setIfInBounds_toArray]); (try simp only [List.set_cons_succ]); (try simp only [List.set_cons_zero])
                  refine wpAnyH_take (i := 19) (v := ?_) opAt19 (by kernel_rfl) (by kernel_rfl) (by kernel_rfl) (fun _ _ _ h => h) (Or.inl ⟨by rfl, ?_⟩) hHeld ?_
                  case refine_2 => (intro w hSw; (try dsimp only at hSw); go_simp; all_goals (with_reducible rfl))
                  (try simp only [Act.put]); (try simp only [List.setIfInBounds_toArray]); (try simp only [List.set_cons_succ]); (try simp only [List.set_cons_zero])
                  refine wpAnyH_take (i := 20) (v := ?_) opAt20 (by kernel_rfl) (by kernel_rfl) (by kernel_rfl) (fun _ _ _ h => h) (Or.inl ⟨by rfl, ?_⟩) hHeld ?_
                  case refine_2 => (intro w hSw; (try dsimp only at hSw); go_simp; all_goals (with_reducible rfl))
                  (try simp only [Act.put]); (try simp only [List.setIfInBounds_toArray]); (try simp only [List.set_cons_succ]); (try simp only [List.set_cons_zero])
                  refine wpAnyH_take (i := 21) (v := ?_) opAt21 (by kernel_rfl) (by kernel_rfl) (by kernel_rfl) (fun _ _ _ h => h) (Or.inl ⟨by rfl, ?_⟩) hHeld ?_
                  case refine_2 => (intro w hSw; (try dsimp only at hSw); go_simp; all_goals (with_reducible rfl))
                  (try simp only [Act.put]); (try simp only [List.setIfInBounds_toArray]); (try simp only [List.set_cons_succ]); (try simp only [List.set_cons_zero])
                  refine wpAnyH_ready (rs := [22]) (by kernel_rfl) (by simp) ?_
                  refine AllReadyH.cons opAt22 (fun K hK => ?_) AllReadyH.nil
                  go_simp
                  go_at_call 22; refine (ih _ _ _ k1 k2 (HSZ.out) (HW1.out) (RK1.out.kept (Kept.refl _ wr).drew) (RK2.out.kept (Kept.refl _ wr).drew)).mono ?_; rintro e w5 ⟨rfl, k5⟩; rw [HS.out]; have K5 := Lib.hid (keptFF (Kept.refl _ wr).drew k5); dsimp only
                  refine hK.out _ _ ?_ (fun hHeld => ?_)
                  · exact ⟨fun k v hv => k5.cell (hHeld.1 k v hv) (fun f => f), fun k v hv => k5.cell (hHeld.2.1 k v hv) (fun f => f), k5.cell hHeld.2.2.1 (fun f => f), k5.cell hHeld.2.2.2 (fun f => f)⟩
                  clear hK K
                  (try simp only [Act.put]); (try simp only [List.setIfInBounds_toArray]); (try simp only [List.set_cons_succ]); (try simp only [List.set_cons_zero])
                  refine wpAnyH_take (i := 23) (v := ?_) opAt23 (by kernel_rfl) (by kernel_rfl) (by kernel_rfl) (fun _ _ _ h => h) (Or.inl ⟨by rfl, ?_⟩) hHeld ?_
                  case refine_2 => (intro w hSw; (try dsimp only at hSw); go_simp; all_goals (with_reducible rfl))
                  (try simp only [Act.put]); (try simp only [List.setIfInBounds_toArray]); (try simp only [List.set_cons_succ]); (try simp only [List.set_cons_zero])
                  refine wpAnyH_take (i := 24) (v := ?_) opAt24 (by kernel_rfl) (by kernel_rfl) (by kernel_rfl) (fun _ _ _ h => h) (Or.inl ⟨by rfl, ?_⟩) hHeld ?_
                  case refine_2 => (intro w hSw; (try dsimp only at hSw); go_simp; all_goals (with_reducible rfl))
                  (try simp only [Act.put]); (try simp only [List.setIfInBounds_toArray]); (try simp only [List.set_cons_succ]); (try simp only [List.set_cons_zero])
                  refine wpAnyH_done (by kernel_rfl) ?_ _
                  go_wp2
                  go_ret
                  exact ⟨by rw [FF.out]; rfl, keptFF KK.out K5.out⟩
              | false =>
                have FF := Lib.hid (show sameB f1 f2 = false from by rw [SAME.out, sameB_false]; intro e; cases e; exact absurd rfl (eqS_false.1 hxy))
                go_wp2
                refine wp_region_held_drew (S := (fun w' => w'.rangeAt g1 (o1 + i * 9) x.cells ∧ w'.rangeAt g2 (o2 + i * 9) y.cells ∧ w'.cell? ⟨g1, o1 + i * 9 + 8, none⟩ = some (.slice a1 n1 c1) ∧ w'.cell? ⟨g2, o2 + i * 9 + 8, none⟩ = some (.slice a2 n2 c2))) (by kernel_rfl) ?_ (fun hHeld => ?_)
                · exact ⟨rx, ry, kx, ky⟩
                refine wpAnyH_take (i := 0) (v := ?_) opAt0 (by kernel_rfl) (by kernel_rfl) (by kernel_rfl) (fun _ _ _ h => h) (Or.inl ⟨by rfl, ?_⟩) hHeld ?_
                case refine_2 => (intro w hSw; (try dsimp only at hSw); go_simp; all_goals (with_reducible rfl))
                (try simp only [Act.put]); (try simp only [List.setIfInBounds_toArray]); (try simp only [List.set_cons_succ]); (try simp only [List.set_cons_zero])
                refine wpAnyH_take (i := 1) (v := ?_) opAt1 (by kernel_rfl) (by kernel_rfl) (by kernel_rfl) (fun _ _ _ h => h) (Or.inl ⟨by rfl, ?_⟩) hHeld ?_
                case refine_2 => (intro w hSw; (try dsimp only at hSw); go_simp; all_goals (with_reducible rfl))
                (try simp only [Act.put]); (try simp only [List.setIfInBounds_toArray]); (try simp only [List.set_cons_succ]); (try simp only [List.set_cons_zero])
                refine wpAnyH_take (i := 2) (v := ?_) opAt2 (by kernel_rfl) (by kernel_rfl) (by kernel_rfl) (fun _ _ _ h => h) (Or.inl ⟨by rfl, ?_⟩) hHeld ?_
                case refine_2 => (intro w hSw; (try dsimp only at hSw); go_simp; all_goals (with_reducible rfl))
                (try simp only [Act.put]); (try simp only [List.setIfInBounds_toArray]); (try simp only [List.set_cons_succ]); (try simp only [List.set_cons_zero])
                refine wpAnyH_take (i := 3) (v := ?_) opAt3 (by kernel_rfl) (by kernel_rfl) (by kernel_rfl) (fun _ _ _ h => h) (Or.inl ⟨by rfl, ?_⟩) hHeld ?_
                case refine_2 => (intro w hSw; (try dsimp only at hSw); go_simp; all_goals (with_reducible rfl))
                (try simp only [Act.put]); (try simp only [List.setIfInBounds_toArray]); (try simp only [List.set_cons_succ]); (try simp only [List.set_cons_zero])
                refine wpAnyH_take (i := 4) (v := aggS x) opAt4 (by kernel_rfl) (by kernel_rfl) (by kernel_rfl) (fun _ _ _ h => h) (yieldsIf_load_mid (by rfl) 24 _ (by rfl) g1 (o1 + i * 9) (by rfl) x.cells _ (fun w hS => hS.1) Try.underlying24 rfl info24) hHeld ?_
                (try simp only [Act.put]); (try simp only [List.setIfInBounds_toArray]); (try simp only [List.set_cons_succ]); (try simp only [List.set_cons_zero])
                refine wpAnyH_take (i := 5) (v := ?_) opAt5 (by kernel_rfl) (by kernel_rfl) (by kernel_rfl) (fun _ _ _ h => h) (Or.inl ⟨by rfl, ?_⟩) hHeld ?_
                case refine_2 => (intro w hSw; (try dsimp only at hSw); go_simp; all_goals (with_reducible rfl))
                (try simp only [Act.put]); (try simp only [List.setIfInBounds_toArray]); (try simp only [List.set_cons_succ]); (try simp only [List.set_cons_zero])
                refine wpAnyH_take (i := 6) (v := ?_) opAt6 (by kernel_rfl) (by kernel_rfl) (by kernel_rfl) (fun _ _ _ h => h) (Or.inl ⟨by rfl, ?_⟩) hHeld ?_
                case refine_2 => (intro w hSw; (try dsimp only at hSw); go_simp; all_goals (with_reducible rfl))
                (try simp only [Act.put]); (try simp only [List.setIfInBounds_toArray]); (try simp only [List.set_cons_succ]); (try simp only [List.set_cons_zero])
                refine wpAnyH_take (i := 7) (v := ?_) opAt7 (by kernel_rfl) (by kernel_rfl) (by kernel_rfl) (fun _ _ _ h => h) (Or.inl ⟨by rfl, ?_⟩) hHeld ?_
                case refine_2 => (intro w hSw; (try dsimp only at hSw); go_simp; all_goals (with_reducible rfl))
                (try simp only [Act.put]); (try simp only [List.setIfInBounds_toArray]); (try simp only [List.set_cons_succ]); (try simp only [List.set_cons_zero])
                refine wpAnyH_take (i := 8) (v := ?_) opAt8 (by kernel_rfl) (by kernel_rfl) (by kernel_rfl) (fun _ _ _ h => h) (Or.inl ⟨by rfl, ?_⟩) hHeld ?_
                case refine_2 => (intro w hSw; (try dsimp only at hSw); go_simp; all_goals (with_reducible rfl))
                (try simp only [Act.put]); (try simp only [List.setIfInBounds_toArray]); (try simp only [List.set_cons_succ]); (try simp only [List.set_cons_zero])
                refine wpAnyH_take (i := 9) (v := aggS y) opAt9 (by kernel_rfl) (by kernel_rfl) (by kernel_rfl) (fun _ _ _ h => h) (yieldsIf_load_mid (by rfl) 24 _ (by rfl) g2 (o2 + i * 9) (by rfl) y.cells _ (fun w hS => hS.2.1) Try.underlying24 rfl info24) hHeld ?_
                (try simp only [Act.put]); (try simp only [List.setIfInBounds_toArray]); (try simp only [List.set_cons_succ]); (try simp only [List.set_cons_zero])
                refine wpAnyH_take (i := 10) (v := ?_) opAt10 (by kernel_rfl) (by kernel_rfl) (by kernel_rfl) (fun _ _ _ h => h) (Or.inl ⟨by rfl, ?_⟩) hHeld ?_
                case refine_2 => (intro w hSw; (try dsimp only at hSw); go_simp; all_goals (with_reducible rfl))
                (try simp only [Act.put]); (try simp only [List.setIfInBounds_toArray]); (try simp only [List.set_cons_succ]); (try simp only [List.set_cons_zero])
                refine wpAnyH_take (i := 11) (v := ?_) opAt11 (by kernel_rfl) (by kernel_rfl) (by kernel_rfl) (fun _ _ _ h => h) (Or.inl ⟨by rfl, ?_⟩) hHeld ?_
                case refine_2 => (intro w hSw; (try dsimp only at hSw); go_simp; all_goals (with_reducible rfl))
                (try simp only [Act.put]); (try simp only [List.setIfInBounds_toArray]); (try simp only [List.set_cons_succ]); (try simp only [List.set_cons_zero])
                refine wpAnyH_take (i := 12) opAt12 (by kernel_rfl) (by kernel_rfl) (by kernel_rfl) (fun _ _ _ h => h) (Or.inr ⟨by rfl, rfl⟩) hHeld ?_
                (try simp only [Act.put]); (try simp only [List.setIfInBounds_toArray]); (try simp only [List.set_cons_succ]); (try simp only [List.set_cons_zero])
                refine wpAnyH_take (i := 13) opAt13 (by kernel_rfl) (by kernel_rfl) (by kernel_rfl) (fun _ _ _ h => h) (Or.inr ⟨by rfl, rfl⟩) hHeld ?_
                (try simp only [Act.put]); (try simp only [List.setIfInBounds_toArray]); (try simp only [List.set_cons_succ]); (try simp only [List.set_cons_zero])
                refine wpAnyH_take (i := 14) opAt14 (by kernel_rfl) (by kernel_rfl) (by kernel_rfl) (fun _ _ _ h => h) (Or.inr ⟨by rfl, rfl⟩) hHeld ?_
                (try simp only [Act.put]); (try simp only [List.setIfInBounds_toArray]); (try simp only [List.set_cons_succ]); (try simp only [List.set_cons_zero])
                refine wpAnyH_take (i := 15) opAt15 (by kernel_rfl) (by kernel_rfl) (by kernel_rfl) (fun _ _ _ h => h) (Or.inr ⟨by rfl, rfl⟩) hHeld ?_
                (try simp only [Act.put]); (try simp only [List.setIfInBounds_toArray]); (try simp only [List.set_cons_succ]); (try simp only [List.set_cons_zero])
                refine wpAnyH_take (i := 16) opAt16 (by kernel_rfl) (by kernel_rfl) (by kernel_rfl) (fun _ _ _ h => h) (Or.inr ⟨by rfl, rfl⟩) hHeld ?_
                (try simp only [Act.put]); (try simp only [List.setIfInBounds_toArray]); (try simp only [List.set_cons_succ]); (try simp only [List.set_cons_zero])
                refine wpAnyH_take (i := 17) opAt17 (by kernel_rfl) (by kernel_rfl) (by kernel_rfl) (fun _ _ _ h => h) (Or.inr ⟨by rfl, rfl⟩) hHeld ?_
                (try simp only [Act.put]); (try simp only [List.setIfInBounds_toArray]); (try simp only [List.set_cons_succ]); (try simp only [List.set_cons_zero])
                refine wpAnyH_take (i := 18) opAt18 (by kernel_rfl) (by kernel_rfl) (by kernel_rfl) (fun _ _ _ h => h) (Or.inr ⟨by rfl, rfl⟩) hHeld ?_
                (try simp only [Act.put]); (try simp only [List.setIfInBounds_toArray]); (try simp only [List.set_cons_succ]); (try simp only [List.set_cons_zero])
                refine wpAnyH_take (i := 19) opAt19 (by kernel_rfl) (by kernel_rfl) (by kernel_rfl) (fun _ _ _ h => h) (Or.inr ⟨by rfl, rfl⟩) hHeld ?_
                (try simp only [Act.put]); (try simp only [List.setIfInBounds_toArray]); (try simp only [List.set_cons_succ]); (try simp only [List.set_cons_zero])
                refine wpAnyH_take (i := 20) opAt20 (by kernel_rfl) (by kernel_rfl) (by kernel_rfl) (fun _ _ _ h => h) (Or.inr ⟨by rfl, rfl⟩) hHeld ?_
                (try simp only [Act.put]); (try simp only [List.setIfInBounds_toArray]); (try simp only [List.set_cons_succ]); (try simp only [List.set_cons_zero])
                refine wpAnyH_take (i := 21) opAt21 (by kernel_rfl) (by kernel_rfl) (by kernel_rfl) (fun _ _ _ h => h) (Or.inr ⟨by rfl, rfl⟩) hHeld ?_
                (try simp only [Act.put]); (try simp only [List.setIfInBounds_toArray]); (try simp only [List.set_cons_succ]); (try simp only [List.set_cons_zero])
                refine wpAnyH_take (i := 22) opAt22 (by kernel_rfl) (by kernel_rfl) (by kernel_rfl) (fun _ _ _ h => h) (Or.inr ⟨by rfl, rfl⟩) hHeld ?_
                (try simp only [Act.put]); (try simp only [List.setIfInBounds_toArray]); (try simp only [List.set_cons_succ]); (try simp only [List.set_cons_zero])
                refine wpAnyH_take (i := 23) opAt23 (by kernel_rfl) (by kernel_rfl) (by kernel_rfl) (fun _ _ _ h => h) (Or.inr ⟨by rfl, rfl⟩) hHeld ?_
                (try simp only [Act.put]); (try simp only [List.setIfInBounds_toArray]); (try simp only [List.set_cons_succ]); (try simp only [List.set_cons_zero])
                refine wpAnyH_take (i := 24) (v := ?_) opAt24 (by kernel_rfl) (by kernel_rfl) (by kernel_rfl) (fun _ _ _ h => h) (Or.inl ⟨by rfl, ?_⟩) hHeld ?_
                case refine_2 => (intro w hSw; (try dsimp only at hSw); go_simp; all_goals (with_reducible rfl))
                (try simp only [Act.put]); (try simp only [List.setIfInBounds_toArray]); (try simp only [List.set_cons_succ]); (try simp only [List.set_cons_zero])
                refine wpAnyH_done (by kernel_rfl) ?_ _
                go_wp2
                go_ret
                exact ⟨by rw [FF.out]; rfl, KK.out.drew⟩
        · have i0 : ¬ (i : Int) < (n : Int) := by omega
          have TT := Lib.hid (show sameB f1 f2 = true from by
            have h1 := L1.out; have h2 := L2.out
            rw [SAME.out, Fr.len_zero (f := r1) (by omega), Fr.len_zero (f := r2) (by omega)]
            exact sameB_refl _)
          go_wp2
          go_ret
          exact ⟨by rw [TT.out]; rfl, KK.out⟩
    · have d0 : ((f1.len : Int) != (f2.len : Int)) = true := by simp; omega
      have FF := Lib.hid (show sameB f1 f2 = false from sameB_false.2 (fun e => hlen (by rw [e])))
      clear hlen
      go_enter Try.func22, Try.ntmps22
      go_wp2
      go_ret
      exact ⟨by rw [FF.out]; rfl, Kept.refl _ _⟩

set_option maxHeartbeats 4000000 in
theorem same_any (S1 S2 : Nat → Prop) (w : World) (r1 o1 r2 o2 : Value) (a b c d : Fr) (ha : ReadsF S1 w r1 a) (hb : ReadsF S1 w o1 b) (hc : ReadsF S2 w r2 c) (hd : ReadsF S2 w o2 d) (wa : a.len ≤ 1000 ∧ a.wide 1000) (wb : b.len ≤ 1000 ∧ b.wide 1000) :
    Calls Try.prog 9 #[.agg #[r1, o1], .agg #[r2, o2]] w fun e w' => e = .returned (.bool (sameB a c && sameB b d)) ∧ Kept (fun _ => False) w w' := by
  have HA := Lib.hid ha; have HB := Lib.hid hb; have HC := Lib.hid hc; have HD := Lib.hid hd
  obtain ⟨xa, xc, e1, _⟩ := ha
  obtain ⟨xb, xd, e2, _⟩ := hb
  obtain ⟨ya, yc, e3, _⟩ := hc
  obtain ⟨yb, yd, e4, _⟩ := hd
  obtain ⟨n1, hn1⟩ : ∃ n, a.len = n := ⟨_, rfl⟩
  obtain ⟨n2, hn2⟩ : ∃ n, b.len = n := ⟨_, rfl⟩
  obtain ⟨n3, hn3⟩ : ∃ n, c.len = n := ⟨_, rfl⟩
  obtain ⟨n4, hn4⟩ : ∃ n, d.len = n := ⟨_, rfl⟩
  rw [hn1] at e1
  rw [hn2] at e2
  rw [hn3] at e3
  rw [hn4] at e4
  subst e1 e2 e3 e4
  have WA := Lib.hid wa; have WB := Lib.hid wb
  clear wa wb hn1 hn2 hn3 hn4
  cases h1 : sameB a c with
  | true =>
    have H1 := Lib.hid h1
    clear h1
    go_enter Try.func9, Try.ntmps9
    go_wp2_with fail
    refine (samenodes_any S1 S2 (a.size + 1) _ _ _ a c (by omega) WA.out (HA.out.kept (((Kept.refl _ w).alloc _).alloc _)) (HC.out.kept (((Kept.refl _ w).alloc _).alloc _))).mono ?_
    rintro e w5 ⟨rfl, k5⟩
    rw [H1.out]
    have K5 := Lib.hid (keptFF (((Kept.refl (fun _ => False) w).alloc _).alloc _) k5)
    have c1 := k5.cell (a := ⟨w.heap.size, 1, none⟩) (v := .slice xb n2 xd) (by simp) (fun f => f)
    have c2 := k5.cell (a := ⟨w.heap.size + 1, 1, none⟩) (v := .slice yb n4 yd) (by simp) (fun f => f)
    clear k5
    go_wp2_with fail
    refine (samenodes_any S1 S2 (b.size + 1) w5 _ _ b d (by omega) WB.out (HB.out.kept K5.out) (HD.out.kept K5.out)).mono ?_
    rintro e w6 ⟨rfl, k6⟩
    have K6 := Lib.hid (keptFF K5.out k6)
    clear k6
    go_wp2
    go_ret
    exact ⟨by simp, K6.out⟩
  | false =>
    have H1 := Lib.hid h1
    clear h1
    go_enter Try.func9, Try.ntmps9
    go_wp2_with fail
    refine (samenodes_any S1 S2 (a.size + 1) _ _ _ a c (by omega) WA.out (HA.out.kept (((Kept.refl _ w).alloc _).alloc _)) (HC.out.kept (((Kept.refl _ w).alloc _).alloc _))).mono ?_
    rintro e w5 ⟨rfl, k5⟩
    rw [H1.out]
    have K5 := Lib.hid (keptFF (((Kept.refl (fun _ => False) w).alloc _).alloc _) k5)
    clear k5
    go_wp2
    go_ret
    exact ⟨by simp, K5.out⟩
end Go.Proofs.Ytjidldbolbjdpaa
