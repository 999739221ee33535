/- TreesKids. -/
import Derived.Test.YtjidldbolbjdpaaKids
namespace Go.Proofs.Ytjidldbolbjdpaa
open Go.RowKit

def Fr.tops : Fr → List Spn
  | .nil => []
  | .cons s _ r => s :: r.tops
theorem tops_forF (g : Nat → Fr) (R : List Spn) : ∀ l : List Nat, (forF g R l).tops = l.map (nth R)
  | [] => rfl
  | k :: t => by simp [forF, Fr.tops, tops_forF g R t]
theorem good_forF (g : Nat → Fr) {R : List Spn} (hr : Rise R) (top : Bool) (pa : Int) : ∀ (l : List Nat) (prev : Option Int), l.Pairwise (· < ·) → (∀ k ∈ l, k < R.length) → (∀ k ∈ l, top = false → (nth R k).pa = pa) →
    (∀ k ∈ l, (g k).good false (nth R k).id none) → (∀ q, prev = some q → ∀ k ∈ l, q < (nth R k).id) → (forF g R l).good top pa prev
  | [], _, _, _, _, _, _ => trivial
  | k :: t, prev, hp, hl, h1, h2, h3 => by
    have a := List.pairwise_cons.1 hp
    refine ⟨h1 k (by simp), fun q hq => h3 q hq k (by simp), h2 k (by simp), good_forF g hr top pa t _ a.2 (fun j hj => hl j (by simp [hj])) (fun j hj => h1 j (by simp [hj])) (fun j hj => h2 j (by simp [hj])) (fun q hq j hj => ?_)⟩
    cases hq
    exact rise_nth hr (a.1 j hj) (hl j (by simp [hj]))
theorem filter_up (P : Nat → Bool) (m : Nat) : ((List.range m).filter P).Pairwise (· < ·) := List.Pairwise.filter _ List.pairwise_lt_range
theorem good_sub {R : List Spn} (hr : Rise R) : ∀ d i, (subF R d i).good false (nth R i).id none
  | 0, _ => trivial
  | d + 1, i => by
    rw [subF]
    refine good_forF _ hr false _ _ none (by unfold kidF; exact filter_up _ _) (fun k hk => (mem_kidF.1 hk).1) (fun k hk _ => (plF_spec (mem_kidF.1 hk).2.1).2.1.symm) (fun k _ => good_sub hr d k) (fun q hq => by cases hq)
theorem good_roots {R : List Spn} (hr : Rise R) : (rootsF R).good true 0 none :=
  good_forF _ hr true 0 _ none (filter_up _ _) (fun k hk => by simp [rootsL] at hk; exact hk.1) (fun _ _ h => by cases h) (fun k _ => good_sub hr _ k) (fun q hq => by cases hq)
theorem good_orph {R : List Spn} (hr : Rise R) : (orphF R).good true 0 none :=
  good_forF _ hr true 0 _ none (filter_up _ _) (fun k hk => by simp [orphL] at hk; exact hk.1) (fun _ _ h => by cases h) (fun k _ => good_sub hr _ k) (fun q hq => by cases hq)
theorem roots_pa (R : List Spn) : ∀ x ∈ (rootsF R).tops, x.pa = 0 := by
  intro x hx
  rw [rootsF, tops_forF] at hx
  obtain ⟨k, hk, rfl⟩ := List.mem_map.1 hx
  simp [rootsL] at hk
  exact hk.2.2
theorem orph_pa (R : List Spn) : ∀ x ∈ (orphF R).tops, x.pa ≠ 0 := by
  intro x hx
  rw [orphF, tops_forF] at hx
  obtain ⟨k, hk, rfl⟩ := List.mem_map.1 hx
  simp [orphL] at hk
  cases hp : pF R k with
  | none =>
    have := hdF_none hp
    rw [hk.2] at this
    simpa using this.symm
  | some q => exact (plF_spec hp).2.2

set_option maxHeartbeats 8000000 in
set_option maxRecDepth 100000 in
theorem treesKids_any (w : World) (v : Value) (L : List Spn) (h : ReadsS w v L) (hm : L.length ≤ maxLen) :
    Calls Try.prog 6 #[v] w fun e w' => e = .returned (.bool true) ∧ Kept (fun _ => False) w w' := by
  have HRr := Lib.hid h
  obtain ⟨ao, capL, rfl, rd⟩ := h
  obtain ⟨n, hn⟩ : ∃ n, L.length = n := ⟨_, rfl⟩
  have HN := Lib.hid hn
  rw [hn] at hm HRr ⊢
  unfold maxLen at hm
  clear hn rd
  by_cases hbig : 100 < n
  · have h0 : (100 : Int) < (n : Int) := by omega
    go_enter Try.func6, Try.ntmps6
    go_wp2
    go_ret
    exact ⟨rfl, Kept.refl _ _⟩
  · have h0 : ¬ (100 : Int) < (n : Int) := by omega
    have HL := Lib.hid (show L.length ≤ 1000 from by rw [HN.out]; omega)
    clear hbig
    go_enter Try.func6, Try.ntmps6
    go_wp2_with fail
    refine (tof_any w _ L HRr.out HL.out).mono ?_
    rintro e w1 ⟨rv, ov, rfl, r1, o1, k1⟩
    obtain ⟨R, hR⟩ : ∃ R, cntF L = R := ⟨_, rfl⟩
    rw [hR] at r1 o1
    have RL := Lib.hid (show R.length ≤ 1000 from by rw [← hR]; exact Nat.le_trans (cntF_len L) HL.out)
    have RISE := Lib.hid (show Rise R from by rw [← hR]; exact (cntF_cnt L).rise)
    have RW := Lib.hid (roots_wide R RL.out); have OW := Lib.hid (orph_wide R RL.out)
    have GR := Lib.hid (good_roots RISE.out); have GO := Lib.hid (good_orph RISE.out)
    have ROC := Lib.hid (roots_pa R); have OOC := Lib.hid (orph_pa R)
    obtain ⟨S, hS⟩ : ∃ S : Nat → Prop, S = fun k => w.heap.size ≤ k := ⟨_, rfl⟩
    rw [← hS] at r1 o1
    clear hR hS
    obtain ⟨w2, hw2⟩ : ∃ W, w1.alloc (.cells #[rv, ov] 28) = W := ⟨_, rfl⟩
    have kt : Kept (fun _ => False) w1 w2 := by rw [← hw2]; exact (Kept.refl _ w1).alloc _
    have r2 := r1.kept kt
    have o2 := o1.kept kt
    obtain ⟨ra, rc, er, hr2⟩ := id r2
    obtain ⟨oa, oc, eo, ho2⟩ := id o2
    obtain ⟨rn, hrn⟩ : ∃ x, (rootsF R).len = x := ⟨_, rfl⟩
    obtain ⟨on, hon⟩ : ∃ x, (orphF R).len = x := ⟨_, rfl⟩
    have hrn1 : rn ≤ 1000 := by rw [← hrn]; exact RW.out.1
    have hon1 : on ≤ 1000 := by rw [← hon]; exact OW.out.1
    rw [hrn] at er
    rw [hon] at eo
    subst er eo
    have RON := Lib.hid hrn; have OON := Lib.hid hon; have ROR := Lib.hid hr2; have OOR := Lib.hid ho2
    have ROOT := Lib.hid r2; have ORPH := Lib.hid o2
    obtain ⟨tb, htb⟩ : ∃ b, w1.heap.size = b := ⟨_, rfl⟩
    have c0 : w2.cell? ⟨tb, 0, none⟩ = some (.slice ra rn rc) := by rw [← hw2, ← htb]; simp
    have c1 : w2.cell? ⟨tb, 1, none⟩ = some (.slice oa on oc) := by rw [← hw2, ← htb]; simp
    have C0 := Lib.hid c0; have C1 := Lib.hid c1
    have KW := Lib.hid (keptFF k1 kt)
    clear r1 o1 k1 kt r2 o2 hr2 ho2 hrn hon
    go_wp2
    clear hw2 htb c0 c1
    go_loopg [4] rn (fun ghv s wr => ∃ (i : Nat) (r : Fr), i + ghv = rn ∧ s = .int .i64 i ∧ i + r.len = rn ∧ (∀ x ∈ r.tops, x.pa = 0) ∧ (∀ g o, ra = some ⟨g, o, none⟩ → (rootsF R) = .nil ∨ RowF S w2 g (o + i * 9) r) ∧ w2 = wr)
    case atStart => exact ⟨0, (rootsF R), by omega, by go_num, by have := RON.out; omega, ROC.out, fun g o e => ROR.out.imp id (fun ⟨g', o', e', h⟩ => by rw [e] at e'; cases e'; rw [Nat.zero_mul, Nat.add_zero]; exact h), rfl⟩
    case round =>
      obtain ⟨i, r, hg1, rfl, hl1, hc1, hr1, rfl⟩ := hrel
      have G1 := Lib.hid hg1; have L1 := Lib.hid hl1; have HC1 := Lib.hid hc1; have HR1 := Lib.hid hr1
      clear hg1 hl1 hc1 hr1
      have t0 := C0.out
      have t1 := C1.out
      by_cases hin : i < rn
      · have i0 : (i : Int) < (rn : Int) := by omega
        have i1 : (0 : Int) ≤ (i : Int) := by omega
        have e1 : IntKind.i64.wrap ((i : Int) + 1) = ((i + 1 : Nat) : Int) := IntWalk.i64_in _ (by omega)
        cases r with
        | nil => have := L1.out; simp [Fr.len] at this; omega
        | cons s k r =>
          obtain ⟨g, o, rfl, _⟩ : ∃ g o, ra = some ⟨g, o, none⟩ ∧ RowF S w2 g o ((rootsF R)) := by
            rcases ROR.out with h | h
            · have := RON.out; rw [h] at this; simp [Fr.len] at this; omega
            · exact h
          have nn1 : (rootsF R) ≠ .nil := fun e => by have := RON.out; rw [e] at this; simp [Fr.len] at this; omega
          obtain ⟨_, hs, _, rr⟩ := (HR1.out g o rfl).resolve_left nn1
          have RR := Lib.hid rr
          have c2 := hs 2 _ rfl
          have hpa := HC1.out s (by simp [Fr.tops])
          have d1 : (s.pa != 0) = false := by simp [hpa]
          clear hs rr nn1 hpa
          go_wp2
          go_roundg (rn - (i + 1))
          case measure => have := G1.out; omega
          case rel => exact ⟨i + 1, r, by omega, by go_num, by have h := L1.out; simp only [Fr.len] at h; omega, fun x hx => HC1.out x (by simp [Fr.tops, hx]), fun g' o' e => .inr (by cases e; rw [Nat.succ_mul, ← Nat.add_assoc]; exact RR.out), rfl⟩
      · have i0 : ¬ (i : Int) < (rn : Int) := by omega
        go_wp2
        go_loopg [5] on (fun ghv s wr => ∃ (i : Nat) (r : Fr), i + ghv = on ∧ s = .int .i64 i ∧ i + r.len = on ∧ (∀ x ∈ r.tops, x.pa ≠ 0) ∧ (∀ g o, oa = some ⟨g, o, none⟩ → (orphF R) = .nil ∨ RowF S w2 g (o + i * 9) r) ∧ w2 = wr)
        case atStart => exact ⟨0, (orphF R), by omega, by go_num, by have := OON.out; omega, OOC.out, fun g o e => OOR.out.imp id (fun ⟨g', o', e', h⟩ => by rw [e] at e'; cases e'; rw [Nat.zero_mul, Nat.add_zero]; exact h), rfl⟩
        case round =>
          obtain ⟨i, r, hg1, rfl, hl1, hc1, hr1, rfl⟩ := hrel
          have G1 := Lib.hid hg1; have L1 := Lib.hid hl1; have HC1 := Lib.hid hc1; have HR1 := Lib.hid hr1
          clear hg1 hl1 hc1 hr1
          have t0 := C0.out
          have t1 := C1.out
          by_cases hin : i < on
          · have i0 : (i : Int) < (on : Int) := by omega
            have i1 : (0 : Int) ≤ (i : Int) := by omega
            have e1 : IntKind.i64.wrap ((i : Int) + 1) = ((i + 1 : Nat) : Int) := IntWalk.i64_in _ (by omega)
            cases r with
            | nil => have := L1.out; simp [Fr.len] at this; omega
            | cons s k r =>
              obtain ⟨g, o, rfl, _⟩ : ∃ g o, oa = some ⟨g, o, none⟩ ∧ RowF S w2 g o ((orphF R)) := by
                rcases OOR.out with h | h
                · have := OON.out; rw [h] at this; simp [Fr.len] at this; omega
                · exact h
              have nn1 : (orphF R) ≠ .nil := fun e => by have := OON.out; rw [e] at this; simp [Fr.len] at this; omega
              obtain ⟨_, hs, _, rr⟩ := (HR1.out g o rfl).resolve_left nn1
              have RR := Lib.hid rr
              have c2 := hs 2 _ rfl
              have hpa := HC1.out s (by simp [Fr.tops])
              have d1 : (s.pa == 0) = false := by simp [hpa]
              clear hs rr nn1 hpa
              go_wp2
              go_roundg (on - (i + 1))
              case measure => have := G1.out; omega
              case rel => exact ⟨i + 1, r, by omega, by go_num, by have h := L1.out; simp only [Fr.len] at h; omega, fun x hx => HC1.out x (by simp [Fr.tops, hx]), fun g' o' e => .inr (by cases e; rw [Nat.succ_mul, ← Nat.add_assoc]; exact RR.out), rfl⟩
          · have i0 : ¬ (i : Int) < (on : Int) := by omega

            have KQ := Lib.hid (Kept.refl (fun _ => False) w2)
            go_wp2_with fail
            refine (kids_any S ((rootsF R).size + 1) w2 _ (rootsF R) true 0 (by omega) RW.out ROOT.out GR.out).mono ?_
            rintro e w5 ⟨rfl, k5⟩
            have K5 := Lib.hid (keptFF KW.out k5)
            have t1 := k5.cell C1.out (fun f => f)
            have O5 := Lib.hid (ORPH.out.kept k5)
            clear k5 t0
            go_wp2_with fail
            refine (kids_any S ((orphF R).size + 1) w5 _ (orphF R) true 0 (by omega) OW.out O5.out GO.out).mono ?_
            rintro e w6 ⟨rfl, k6⟩
            have K6 := Lib.hid (keptFF K5.out k6)
            clear k6 t1
            go_wp2_with fail
            refine (does_any w6).mono ?_
            rintro e w7 ⟨rfl, k7⟩
            have K7 := Lib.hid (keptFF K6.out k7)
            clear k7
            go_wp2
            go_ret
            exact ⟨rfl, K7.out⟩

end Go.Proofs.Ytjidldbolbjdpaa
