/- spoorref14.flat, Flat, Count. -/
import Derived.Test.YtjidldbolbjdpaaSameB
namespace Go.Proofs.Ytjidldbolbjdpaa
open Go.RowKit

theorem size_flat : ∀ f : Fr, f.flat.length = f.size
  | .nil => rfl
  | .cons _ k r => by simp [Fr.flat, Fr.size, size_flat k, size_flat r]
theorem size_len : ∀ f : Fr, f.len ≤ f.size
  | .nil => Nat.le_refl _
  | .cons _ k r => by have := size_len r; simp only [Fr.len, Fr.size]; omega

set_option maxHeartbeats 8000000 in
set_option maxRecDepth 100000 in
theorem rflat_any (S : Nat → Prop) : ∀ (N : Nat) (w : World) (v : Value) (f : Fr), f.size < N → f.size ≤ 1000 → ReadsF S w v f →
    Calls Try.prog 31 #[v] w fun e w' => ∃ v', e = .returned v' ∧ w'.ownsRow w.heap.size 24 8 v' f.flat.length (cellsS f.flat) ∧ Kept (fun _ => False) w w' := by
  intro N
  induction N with
  | zero => intro w v f h; omega
  | succ N ih =>
    intro w v f hsz hs1 hrd
    obtain ⟨ao, ca, rfl, rd⟩ := hrd
    have RD := Lib.hid rd; have SZ := Lib.hid hsz; have HS1 := Lib.hid hs1
    obtain ⟨n, hn⟩ : ∃ n, f.len = n := ⟨_, rfl⟩
    have hnl : n ≤ 1000 := by rw [← hn]; have := size_len f; omega
    have HN := Lib.hid hn
    rw [hn]
    clear rd hsz hs1 hn
    obtain ⟨b0, hb0⟩ : ∃ b, w.heap.size = b := ⟨_, rfl⟩
    have HB0 := Lib.hid hb0
    clear hb0
    obtain ⟨i24, hi24, z24, s24, b24⟩ := info_parts inf24
    go_enter Try.func31, Try.ntmps31
    go_wp2
    go_loopg [3, 4] n (fun ghv s3 s4 wr => ∃ (i : Nat) (la : Option Addr) (cap pn : Nat) (pre : List Spn) (r : Fr), i + ghv = n ∧ s4 = .int .i64 i ∧ s3 = .slice la pn cap ∧ pre.length = pn ∧ i + r.len = n ∧ f.flat = pre ++ r.flat ∧ wr.ownsRow b0 24 8 (.slice la pn cap) pn (cellsS pre) ∧ (∀ g o, ao = some ⟨g, o, none⟩ → f = .nil ∨ RowF S w g (o + i * 9) r) ∧ Kept (fun _ => False) w wr)
    case atStart => exact ⟨0, none, 0, 0, [], f, by omega, by go_num, rfl, rfl, by have := HN.out; omega, rfl, own_nil _ _ _ _, fun g o e => RD.out.imp id (fun ⟨g', o', e', h⟩ => by rw [e] at e'; cases e'; rw [Nat.zero_mul, Nat.add_zero]; exact h), Kept.refl _ _⟩
    case round =>
      obtain ⟨i, la, cap, pn, pre, r, hg1, rfl, rfl, hpl, hl1, hfl, hout, hr, hk⟩ := hrel
      have G1 := Lib.hid hg1; have PL := Lib.hid hpl; have L1 := Lib.hid hl1; have FL := Lib.hid hfl; have OUT := Lib.hid hout; have HR := Lib.hid hr; have KK := Lib.hid hk
      clear hg1 hpl hl1 hfl hout hr hk
      by_cases hin : i < n
      · have i0 : (i : Int) < (n : Int) := by omega
        have i1 : (0 : Int) ≤ (i : Int) := by omega
        have e1 : IntKind.i64.wrap ((i : Int) + 1) = ((i + 1 : Nat) : Int) := IntWalk.i64_in _ (by omega)
        have hpn : pn ≤ 1000 := by have h1 := FL.out; have h2 := HS1.out; have h3 := PL.out; rw [← size_flat, h1, List.length_append] at h2; omega
        cases r with
        | nil => have := L1.out; simp [Fr.len] at this; omega
        | cons x k r =>
          obtain ⟨g, o, rfl, _⟩ : ∃ g o, ao = some ⟨g, o, none⟩ ∧ RowF S w g o f := by
            rcases RD.out with h | h
            · have := HN.out; subst h; simp [Fr.len] at this; omega
            · exact h
          have nn1 : f ≠ .nil := fun e => by have := HN.out; rw [e] at this; simp [Fr.len] at this; omega
          obtain ⟨_, rxw, ⟨ka, kc, kxw, rk⟩, rr⟩ := (HR.out g o rfl).resolve_left nn1
          have TOT := Lib.hid (show pn + 1 + k.flat.length ≤ 1000 from by have h1 := FL.out; have h2 := HS1.out; have h3 := PL.out; rw [← size_flat, h1, List.length_append] at h2; simp only [Fr.flat, List.length_cons, List.length_append] at h2; omega)
          have HSZ := Lib.hid (show k.size < N from by have h1 := FL.out; have h2 := SZ.out; rw [← size_flat, h1, List.length_append] at h2; simp only [Fr.flat, List.length_cons, List.length_append, size_flat] at h2; omega)
          have HS1K := Lib.hid (show k.size ≤ 1000 from by have := TOT.out; rw [← size_flat]; omega)
          have RKW := Lib.hid (show ReadsF S w (.slice ka k.len kc) k from ⟨ka, kc, rfl, rk⟩)
          have RRW := Lib.hid rr
          obtain ⟨kn, hkn⟩ : ∃ n, k.len = n := ⟨_, rfl⟩
          rw [hkn] at kxw RKW
          have RXW := Lib.hid (show w.rangeAt g (o + i * 9) x.cells from rxw); have KXW := Lib.hid kxw
          have rx : wr.rangeAt g (o + i * 9) x.cells := fun j u hu => KK.out.cell (rxw j u hu) (fun f => f)
          have kx := KK.out.cell kxw (fun f => f)
          clear rr rk nn1 hkn rxw kxw
          have B0 := Lib.hid (show b0 ≤ wr.heap.size from by have h1 := HB0.out; have h2 := KK.out.size; omega)
          go_wp2
          refine wp_region_held_drew (S := (fun w' => w'.rangeAt g (o + i * 9) x.cells ∧ w'.cell? ⟨g, o + i * 9 + 8, none⟩ = some (.slice ka kn kc))) (by kernel_rfl) ?_ (fun hHeld => ?_)
          · exact ⟨rx, kx⟩
          refine wpAnyH_take (i := 0) (v := ?_) opAt0 (by kernel_rfl) (by kernel_rfl) (by kernel_rfl) (fun _ _ _ h => h) (Or.inl ⟨by rfl, ?_⟩) hHeld ?_
          case refine_2 => (intro w hSw; (try dsimp only at hSw); go_simp; all_goals (with_reducible rfl))
          (try simp only [Act.put]); (try simp only [List.setIfInBounds_toArray]); (try simp only [List.set_cons_succ]); (try simp only [List.set_cons_zero])
          refine wpAnyH_take (i := 1) (v := ?_) opAt1 (by kernel_rfl) (by kernel_rfl) (by kernel_rfl) (fun _ _ _ h => h) (Or.inl ⟨by rfl, ?_⟩) hHeld ?_
          case refine_2 => (intro w hSw; (try dsimp only at hSw); go_simp; all_goals (with_reducible rfl))
          (try simp only [Act.put]); (try simp only [List.setIfInBounds_toArray]); (try simp only [List.set_cons_succ]); (try simp only [List.set_cons_zero])
          refine wpAnyH_take (i := 2) (v := ?_) opAt2 (by kernel_rfl) (by kernel_rfl) (by kernel_rfl) (fun _ _ _ h => h) (Or.inl ⟨by rfl, ?_⟩) hHeld ?_
          case refine_2 => (intro w hSw; (try dsimp only at hSw); go_simp; all_goals (with_reducible rfl))
          (try simp only [Act.put]); (try simp only [List.setIfInBounds_toArray]); (try simp only [List.set_cons_succ]); (try simp only [List.set_cons_zero])
          refine wpAnyH_take (i := 3) (v := ?_) opAt3 (by kernel_rfl) (by kernel_rfl) (by kernel_rfl) (fun _ _ _ h => h) (Or.inl ⟨by rfl, ?_⟩) hHeld ?_
          case refine_2 => (intro w hSw; (try dsimp only at hSw); go_simp; all_goals (with_reducible rfl))
          (try simp only [Act.put]); (try simp only [List.setIfInBounds_toArray]); (try simp only [List.set_cons_succ]); (try simp only [List.set_cons_zero])
          refine wpAnyH_take (i := 4) (v := ?_) opAt4 (by kernel_rfl) (by kernel_rfl) (by kernel_rfl) (fun _ _ _ h => h) (Or.inl ⟨by rfl, ?_⟩) hHeld ?_
          case refine_2 => (intro w hSw; (try dsimp only at hSw); go_simp; all_goals (with_reducible rfl))
          (try simp only [Act.put]); (try simp only [List.setIfInBounds_toArray]); (try simp only [List.set_cons_succ]); (try simp only [List.set_cons_zero])
          refine wpAnyH_take (i := 5) (v := aggS x) opAt5 (by kernel_rfl) (by kernel_rfl) (by kernel_rfl) (fun _ _ _ h => h) (yieldsIf_load_mid (by rfl) 24 _ (by rfl) g (o + i * 9) (by rfl) x.cells _ (fun w hS => hS.1) Try.underlying24 rfl info24) hHeld ?_
          (try simp only [Act.put]); (try simp only [List.setIfInBounds_toArray]); (try simp only [List.set_cons_succ]); (try simp only [List.set_cons_zero])
          refine wpAnyH_take (i := 8) (v := ?_) opAt8 (by kernel_rfl) (by kernel_rfl) (by kernel_rfl) (fun _ _ _ h => h) (Or.inl ⟨by rfl, ?_⟩) hHeld ?_
          case refine_2 => (intro w hSw; (try dsimp only at hSw); go_simp; all_goals (with_reducible rfl))
          (try simp only [Act.put]); (try simp only [List.setIfInBounds_toArray]); (try simp only [List.set_cons_succ]); (try simp only [List.set_cons_zero])
          refine wpAnyH_take (i := 9) (v := ?_) opAt9 (by kernel_rfl) (by kernel_rfl) (by kernel_rfl) (fun _ _ _ h => h) (Or.inl ⟨by rfl, ?_⟩) hHeld ?_
          case refine_2 => (intro w hSw; (try dsimp only at hSw); go_simp; all_goals (with_reducible rfl))
          (try simp only [Act.put]); (try simp only [List.setIfInBounds_toArray]); (try simp only [List.set_cons_succ]); (try simp only [List.set_cons_zero])
          refine wpAnyH_take (i := 10) (v := ?_) opAt10 (by kernel_rfl) (by kernel_rfl) (by kernel_rfl) (fun _ _ _ h => h) (Or.inl ⟨by rfl, ?_⟩) hHeld ?_
          case refine_2 => (intro w hSw; (try dsimp only at hSw); go_simp; all_goals (with_reducible rfl))
          (try simp only [Act.put]); (try simp only [List.setIfInBounds_toArray]); (try simp only [List.set_cons_succ]); (try simp only [List.set_cons_zero])
          refine wpAnyH_take (i := 11) (v := ?_) opAt11 (by kernel_rfl) (by kernel_rfl) (by kernel_rfl) (fun _ _ _ h => h) (Or.inl ⟨by rfl, ?_⟩) hHeld ?_
          case refine_2 => (intro w hSw; (try dsimp only at hSw); go_simp; all_goals (with_reducible rfl))
          (try simp only [Act.put]); (try simp only [List.setIfInBounds_toArray]); (try simp only [List.set_cons_succ]); (try simp only [List.set_cons_zero])
          refine wpAnyH_take (i := 12) (v := ?_) opAt12 (by kernel_rfl) (by kernel_rfl) (by kernel_rfl) (fun _ _ _ h => h) (Or.inl ⟨by rfl, ?_⟩) hHeld ?_
          case refine_2 => (intro w hSw; (try dsimp only at hSw); go_simp; all_goals (with_reducible rfl))
          (try simp only [Act.put]); (try simp only [List.setIfInBounds_toArray]); (try simp only [List.set_cons_succ]); (try simp only [List.set_cons_zero])
          refine wpAnyH_gen (fun V => Kept (fun _ => False) wr V) ⟨rfl, rfl, rfl, Nat.le_refl _, fun _ _ _ => rfl⟩ ?_
          rintro V0 k0'
          have K0 := Lib.hid k0'
          have hHeld : V0.rangeAt g (o + i * 9) x.cells ∧ V0.cell? ⟨g, o + i * 9 + 8, none⟩ = some (.slice ka kn kc) := ⟨fun j u hu => k0'.cell (rx j u hu) (fun f => f), k0'.cell kx (fun f => f)⟩
          clear k0'
          refine wpAnyH_ready (rs := [6]) (by kernel_rfl) (by simp) ?_
          refine AllReadyH.cons opAt6 (fun K hK => ?_) AllReadyH.nil
          go_simp
          have hn := World.news_of_block (heap_alloc_new V0 (.cells x.cells.toArray 24))
          have hk := (Kept.refl (fun _ => False) V0).alloc (.cells x.cells.toArray 24)
          have K1 := Lib.hid (keptFF K0.out hk)
          have OUT1 := Lib.hid (own_keptS (own_keptS OUT.out K0.out (fun _ _ f => f)) hk (fun _ _ f => f))
          have SG := Lib.hid (show ∀ j u, x.cells[j]? = some u → (V0.alloc (.cells x.cells.toArray 24)).cell? ((⟨V0.heap.size, 0, none⟩ : Addr).add j) = some u from fun j u hu => hn j u (by simpa using hu))
          clear hn hk
          refine hK.out _ (V0.alloc (.cells x.cells.toArray 24)) ?_ (fun hHeld => ?_)
          · exact ⟨fun j u hu => K1.out.cell (rx j u hu) (fun f => f), K1.out.cell kx (fun f => f)⟩
          clear hK K
          (try simp only [Act.put]); (try simp only [List.setIfInBounds_toArray]); (try simp only [List.set_cons_succ]); (try simp only [List.set_cons_zero])
          obtain ⟨V1, hV1⟩ : ∃ V, V0.alloc (.cells x.cells.toArray 24) = V := ⟨_, rfl⟩
          obtain ⟨sb, hsb⟩ : ∃ s, V0.heap.size = s := ⟨_, rfl⟩
          rw [hV1] at OUT1 K1 SG ⊢
          rw [hsb] at SG ⊢
          have B1 := Lib.hid (show b0 ≤ V1.heap.size from Nat.le_trans B0.out K1.out.size)
          clear hV1 hsb hHeld
          refine wpAnyH_ready (rs := [7]) (by kernel_rfl) (by simp) ?_
          refine AllReadyH.cons opAt7 (fun K hK => ?_) AllReadyH.nil
          refine step_app (by rfl) _ _ 22 (by rfl) b0 24 i24 _ 8 88 Try.underlying22 hi24 z24 s24 b24 (by rfl) (by decide) _ pn _ (by rfl) OUT1.out ⟨sb, 0, none⟩ 1 1 x.cells (by rfl) (by rfl) SG.out (fun u hu => by simp [Spn.cells] at hu; rcases hu with rfl | rfl | rfl | rfl | rfl | rfl | rfl | rfl <;> rfl) (by unfold maxLen; omega) (by omega) B1.out ?_
          intro ao2 cap2 V2 hown hgr hat
          have OUT2 := Lib.hid hown
          have KV := Lib.hid (grown_kept hgr)
          have NB2 := Lib.hid (show ∀ q, (Value.slice la pn cap).ownBlock = some q → wr.heap.size ≤ q ∨ b0 ≤ q from fun q hq => .inr (own_lt OUT1.out hq).1)
          have KW2 := Lib.hid (((keptFF KK.out K1.out).trans KV.out (fun _ _ f => f) (fun q h1 h2 => by have h3 := (own_lt OUT1.out h2).1; have h4 := HB0.out; omega) : Kept (fun _ => False) w V2))
          clear hown hgr hat
          refine hK.out _ _ ?_ (fun hHeld => ?_)
          · exact ⟨fun j u hu => KW2.out.cell (RXW.out j u hu) (fun f => f), KW2.out.cell KXW.out (fun f => f)⟩
          clear hK K
          (try simp only [Act.put]); (try simp only [List.setIfInBounds_toArray]); (try simp only [List.set_cons_succ]); (try simp only [List.set_cons_zero])
          refine wpAnyH_ready (rs := [13]) (by kernel_rfl) (by simp) ?_
          refine AllReadyH.cons opAt13 (fun K hK => ?_) AllReadyH.nil
          go_simp
          go_at_call 31
          refine (ih V2 _ k HSZ.out HS1K.out (RKW.out.kept KW2.out)).mono ?_
          rintro e V3 ⟨v3, rfl, own3, k3⟩
          obtain ⟨a3, c3, ev⟩ : ∃ a c, v3 = .slice a k.flat.length c := by
            rcases row_form own3 with ⟨q1, q2⟩ | ⟨g', c', q1, _⟩
            · exact ⟨none, 0, by rw [q1, q2]⟩
            · exact ⟨_, _, q1⟩
          subst ev
          have KW3 := Lib.hid (keptFF KW2.out k3)
          have OUT3 := Lib.hid (own_keptS OUT2.out k3 (fun _ _ f => f))
          have SRC := Lib.hid (show Src V3 (.slice a3 k.flat.length c3) k.flat.length (cellsS k.flat) from by
            rcases row_form own3 with ⟨q1, q2⟩ | ⟨g', c', q1, _, _, _, hc⟩
            · simp only [Value.slice.injEq] at q1; exact ⟨a3, c3, rfl, .inl ⟨q1.1, q2, by rw [List.eq_nil_of_length_eq_zero q2]; rfl⟩⟩
            · cases q1; exact ⟨_, _, rfl, .inr ⟨_, rfl, fun j u hu => by rw [add_mid, Nat.zero_add]; exact hc j u hu⟩⟩)
          have B3 := Lib.hid (show b0 ≤ V3.heap.size from Nat.le_trans (Nat.le_of_eq HB0.out.symm) KW3.out.size)
          clear own3 k3
          dsimp only
          refine hK.out _ _ ?_ (fun hHeld => ?_)
          · exact ⟨fun j u hu => KW3.out.cell (RXW.out j u hu) (fun f => f), KW3.out.cell KXW.out (fun f => f)⟩
          clear hK K
          (try simp only [Act.put]); (try simp only [List.setIfInBounds_toArray]); (try simp only [List.set_cons_succ]); (try simp only [List.set_cons_zero])
          refine wpAnyH_ready (rs := [14]) (by kernel_rfl) (by simp) ?_
          refine AllReadyH.cons opAt14 (fun K hK => ?_) AllReadyH.nil
          refine step_appG (by rfl) _ _ 22 (by rfl) b0 24 i24 _ 8 88 Try.underlying22 hi24 z24 s24 b24 (by rfl) (by decide) _ (pn + 1) _ (by rfl) OUT3.out k.flat.length (cellsS k.flat) _ (by rfl) SRC.out (cellsS_length _) (cellsS_one _) (by have := TOT.out; unfold maxLen; omega) (by have := TOT.out; omega) B3.out ?_
          intro ao4 cap4 V4 hown hk hat
          have OUT4 := Lib.hid hown
          have KW4 := Lib.hid ((KW3.out.trans hk (fun _ _ f => f) (fun q h1 h2 => by have h3 := (own_lt OUT3.out h2).1; have h4 := HB0.out; omega) : Kept (fun _ => False) w V4))
          clear hown hk hat
          refine hK.out _ _ ?_ (fun hHeld => ?_)
          · exact ⟨fun j u hu => KW4.out.cell (RXW.out j u hu) (fun f => f), KW4.out.cell KXW.out (fun f => f)⟩
          clear hK K
          (try simp only [Act.put]); (try simp only [List.setIfInBounds_toArray]); (try simp only [List.set_cons_succ]); (try simp only [List.set_cons_zero])
          refine wpAnyH_take (i := 15) (v := ?_) opAt15 (by kernel_rfl) (by kernel_rfl) (by kernel_rfl) (fun _ _ _ h => h) (Or.inl ⟨by rfl, ?_⟩) hHeld ?_
          case refine_2 => (intro w hSw; (try dsimp only at hSw); go_simp; all_goals (with_reducible rfl))
          (try simp only [Act.put]); (try simp only [List.setIfInBounds_toArray]); (try simp only [List.set_cons_succ]); (try simp only [List.set_cons_zero])
          refine wpAnyH_done (by kernel_rfl) ?_ _
          go_wp2
          go_roundg (n - (i + 1))
          case measure => have := G1.out; omega
          case rel => exact ⟨i + 1, _, _, pn + 1 + k.flat.length, pre ++ x :: k.flat, r, by omega, by go_num, rfl, by simp [PL.out]; omega, by have h := L1.out; simp only [Fr.len] at h; omega, by rw [FL.out]; simp [Fr.flat], by rw [cellsS_append, cellsS, ← List.append_assoc]; exact OUT4.out, fun g' o' e => .inr (by cases e; rw [Nat.succ_mul, ← Nat.add_assoc]; exact RRW.out), KW4.out⟩
      · have i0 : ¬ (i : Int) < (n : Int) := by omega
        go_wp2
        go_ret
        have hz : r = .nil := Fr.len_zero (by have := L1.out; omega)
        have hf : f.flat = pre := by rw [FL.out, hz]; simp [Fr.flat]
        exact ⟨.slice la pn cap, rfl, by rw [hf, PL.out, HB0.out]; exact OUT.out, KK.out⟩

theorem own_mono {w : World} {base base' e size : Nat} {v : Value} {n : Nat} {xs : List Value} (h : w.ownsRow base e size v n xs) (hb : base' ≤ base) : w.ownsRow base' e size v n xs :=
  ⟨h.1, h.2.imp id (fun ⟨g, cap, cur, e1, e2, r⟩ => ⟨g, cap, cur, e1, Nat.le_trans hb e2, r⟩)⟩
theorem src_own {w : World} {base n cap : Nat} {a : Option Addr} {L : List Spn} (h : w.ownsRow base 24 8 (.slice a n cap) n (cellsS L)) (hl : L.length = n) : Src w (.slice a n cap) n (cellsS L) := by
  rcases row_form h with ⟨q1, q2⟩ | ⟨g', c', q1, _, _, _, hc⟩
  · simp only [Value.slice.injEq] at q1
    exact ⟨a, cap, rfl, .inl ⟨q1.1, q2, by rw [List.eq_nil_of_length_eq_zero (hl.trans q2)]; rfl⟩⟩
  · cases q1; exact ⟨_, _, rfl, .inr ⟨_, rfl, fun j u hu => by rw [add_mid, Nat.zero_add]; exact hc j u hu⟩⟩
set_option maxHeartbeats 8000000 in
set_option maxRecDepth 100000 in
theorem rFlat_any (S : Nat → Prop) (w : World) (rv ov : Value) (a b : Fr) (ha : ReadsF S w rv a) (hb : ReadsF S w ov b) (hs : a.size + b.size ≤ 1000) :
    Calls Try.prog 16 #[.agg #[rv, ov]] w fun e w' => ∃ v', e = .returned v' ∧ w'.ownsRow w.heap.size 24 8 v' (a.size + b.size) (cellsS (a.flat ++ b.flat)) ∧ Kept (fun _ => False) w w' := by
  have HA := Lib.hid ha; have HB := Lib.hid hb
  obtain ⟨xa, xc, e1, _⟩ := ha
  obtain ⟨xb, xd, e2, _⟩ := hb
  obtain ⟨n1, hn1⟩ : ∃ n, a.len = n := ⟨_, rfl⟩
  obtain ⟨n2, hn2⟩ : ∃ n, b.len = n := ⟨_, rfl⟩
  rw [hn1] at e1
  rw [hn2] at e2
  subst e1 e2
  clear hn1 hn2
  obtain ⟨i24, hi24, z24, s24, b24⟩ := info_parts inf24
  obtain ⟨b0, hb0⟩ : ∃ n, w.heap.size = n := ⟨_, rfl⟩
  obtain ⟨W1, hW1⟩ : ∃ W, w.alloc (.cells #[.slice xa n1 xc, .slice xb n2 xd] 28) = W := ⟨_, rfl⟩
  have K1 := Lib.hid (show Kept (fun _ => False) w W1 by rw [← hW1]; exact (Kept.refl _ w).alloc _)
  have T1 := Lib.hid (show W1.cell? ⟨b0, 0, none⟩ = some (.slice xa n1 xc) ∧ W1.cell? ⟨b0, 1, none⟩ = some (.slice xb n2 xd) by rw [← hW1, ← hb0]; exact ⟨by simp, by simp⟩)
  have HB0 := Lib.hid hb0
  go_enter Try.func16, Try.ntmps16
  go_wp2
  clear hW1 hb0
  have SS := Lib.hid (show ∀ w', Kept (fun _ => False) W1 w' → w'.cell? ⟨b0, 0, none⟩ = some (.slice xa n1 xc) ∧ w'.cell? ⟨b0, 1, none⟩ = some (.slice xb n2 xd) from fun w' k => ⟨k.cell T1.out.1 (fun f => f), k.cell T1.out.2 (fun f => f)⟩)
  have D0 := Lib.hid ((Kept.refl (fun _ => False) W1).drew)
  refine wp_region_held_drew (S := (fun w' => w'.cell? ⟨b0, 0, none⟩ = some (.slice xa n1 xc) ∧ w'.cell? ⟨b0, 1, none⟩ = some (.slice xb n2 xd))) (by kernel_rfl) ?_ (fun hHeld => ?_)
  · exact SS.out _ D0.out
  refine wpAnyH_take (i := 0) (v := ?_) opAt0 (by kernel_rfl) (by kernel_rfl) (by kernel_rfl) (fun _ _ _ h => h) (Or.inl ⟨by rfl, ?_⟩) hHeld ?_
  case refine_2 => (intro w hSw; (try dsimp only at hSw); go_simp; all_goals (with_reducible rfl))
  (try simp only [Act.put]); (try simp only [List.setIfInBounds_toArray]); (try simp only [List.set_cons_succ]); (try simp only [List.set_cons_zero])
  refine wpAnyH_take (i := 1) (v := ?_) opAt1 (by kernel_rfl) (by kernel_rfl) (by kernel_rfl) (fun _ _ _ h => h) (Or.inl ⟨by rfl, ?_⟩) hHeld ?_
  case refine_2 => (intro w hSw; (try dsimp only at hSw); go_simp; all_goals (with_reducible rfl))
  (try simp only [Act.put]); (try simp only [List.setIfInBounds_toArray]); (try simp only [List.set_cons_succ]); (try simp only [List.set_cons_zero])
  refine wpAnyH_take (i := 3) (v := ?_) opAt3 (by kernel_rfl) (by kernel_rfl) (by kernel_rfl) (fun _ _ _ h => h) (Or.inl ⟨by rfl, ?_⟩) hHeld ?_
  case refine_2 => (intro w hSw; (try dsimp only at hSw); go_simp; all_goals (with_reducible rfl))
  (try simp only [Act.put]); (try simp only [List.setIfInBounds_toArray]); (try simp only [List.set_cons_succ]); (try simp only [List.set_cons_zero])
  refine wpAnyH_take (i := 4) (v := ?_) opAt4 (by kernel_rfl) (by kernel_rfl) (by kernel_rfl) (fun _ _ _ h => h) (Or.inl ⟨by rfl, ?_⟩) hHeld ?_
  case refine_2 => (intro w hSw; (try dsimp only at hSw); go_simp; all_goals (with_reducible rfl))
  (try simp only [Act.put]); (try simp only [List.setIfInBounds_toArray]); (try simp only [List.set_cons_succ]); (try simp only [List.set_cons_zero])
  refine wpAnyH_ready (rs := [2]) (by kernel_rfl) (by simp) ?_
  refine AllReadyH.cons opAt2 (fun K hK => ?_) AllReadyH.nil
  go_simp
  go_at_call 31
  refine (rflat_any S (a.size + 1) _ _ a (by omega) (by omega) (HA.out.kept (keptFF K1.out D0.out))).mono ?_
  rintro e V3 ⟨v3, rfl, own3, k3⟩
  obtain ⟨a3, c3, ev⟩ : ∃ x c, v3 = .slice x a.flat.length c := by
    rcases row_form own3 with ⟨q1, q2⟩ | ⟨g', c', q1, _⟩
    · exact ⟨none, 0, by rw [q1, q2]⟩
    · exact ⟨_, _, q1⟩
  subst ev
  have KW3 := Lib.hid (keptFF D0.out k3)
  have OUT3 := Lib.hid (show V3.ownsRow W1.heap.size 24 8 (.slice a3 a.flat.length c3) a.flat.length (cellsS a.flat) from own3)
  clear own3 k3
  dsimp only
  refine hK.out _ _ ?_ (fun hHeld => ?_)
  · exact SS.out _ KW3.out
  clear hK K
  (try simp only [Act.put]); (try simp only [List.setIfInBounds_toArray]); (try simp only [List.set_cons_succ]); (try simp only [List.set_cons_zero])
  refine wpAnyH_ready (rs := [5]) (by kernel_rfl) (by simp) ?_
  refine AllReadyH.cons opAt5 (fun K hK => ?_) AllReadyH.nil
  go_simp
  go_at_call 31
  refine (rflat_any S (b.size + 1) V3 _ b (by omega) (by omega) (HB.out.kept (keptFF K1.out KW3.out))).mono ?_
  rintro e V4 ⟨v4, rfl, own4, k4⟩
  obtain ⟨a4, c4, ev⟩ : ∃ x c, v4 = .slice x b.flat.length c := by
    rcases row_form own4 with ⟨q1, q2⟩ | ⟨g', c', q1, _⟩
    · exact ⟨none, 0, by rw [q1, q2]⟩
    · exact ⟨_, _, q1⟩
  subst ev
  have KW4' := Lib.hid (keptFF KW3.out k4)
  have SRC := Lib.hid (src_own own4 rfl)
  have OUT3b := Lib.hid (own_keptS OUT3.out k4 (fun _ _ f => f))
  clear own4 k4
  dsimp only
  refine hK.out _ _ ?_ (fun hHeld => ?_)
  · exact SS.out _ KW4'.out
  clear hK K
  (try simp only [Act.put]); (try simp only [List.setIfInBounds_toArray]); (try simp only [List.set_cons_succ]); (try simp only [List.set_cons_zero])
  obtain ⟨b1, hb1⟩ : ∃ n, W1.heap.size = n := ⟨_, rfl⟩
  refine wpAnyH_ready (rs := [6]) (by kernel_rfl) (by simp) ?_
  refine AllReadyH.cons opAt6 (fun K hK => ?_) AllReadyH.nil
  refine step_appG (by rfl) _ _ 22 (by rfl) W1.heap.size 24 i24 _ 8 88 Try.underlying22 hi24 z24 s24 b24 (by rfl) (by decide) _ a.flat.length _ (by rfl) OUT3b.out b.flat.length (cellsS b.flat) _ (by rfl) SRC.out (cellsS_length _) (cellsS_one _) (by rw [size_flat, size_flat]; unfold maxLen; omega) (by rw [size_flat, size_flat]; omega) KW4'.out.size ?_
  intro ao4 cap4 V5 hown hk hat
  have OUT4 := Lib.hid (show V5.ownsRow b0 24 8 (.slice ao4 (a.flat.length + b.flat.length) cap4) (a.size + b.size) (cellsS a.flat ++ cellsS b.flat) from by rw [← size_flat, ← size_flat]; exact own_mono hown (by have h1 := K1.out.size; have h2 := HB0.out; omega))
  have KW4 := Lib.hid (((keptFF K1.out KW4'.out).trans hk (fun _ _ f => f) (fun q h1 h2 => by have h3 := (own_lt OUT3b.out h2).1; have h4 := K1.out.size; omega) : Kept (fun _ => False) w V5))
  refine hK.out _ _ ?_ (fun hHeld => ?_)
  · exact ⟨hk.cell hHeld.1 (fun e => by have h3 := (own_lt OUT3b.out e).1; have h4 := World.block_lt_of_cell? _ _ T1.out.1; simp only at h3 h4; omega), hk.cell hHeld.2 (fun e => by have h3 := (own_lt OUT3b.out e).1; have h4 := World.block_lt_of_cell? _ _ T1.out.2; simp only at h3 h4; omega)⟩
  clear hown hk hat hK K
  (try simp only [Act.put]); (try simp only [List.setIfInBounds_toArray]); (try simp only [List.set_cons_succ]); (try simp only [List.set_cons_zero])
  refine wpAnyH_take (i := 7) (v := ?_) opAt7 (by kernel_rfl) (by kernel_rfl) (by kernel_rfl) (fun _ _ _ h => h) (Or.inl ⟨by rfl, ?_⟩) hHeld ?_
  case refine_2 => (intro w hSw; (try dsimp only at hSw); go_simp; all_goals (with_reducible rfl))
  (try simp only [Act.put]); (try simp only [List.setIfInBounds_toArray]); (try simp only [List.set_cons_succ]); (try simp only [List.set_cons_zero])
  refine wpAnyH_done (by kernel_rfl) ?_ _
  go_wp2
  go_ret
  exact ⟨_, rfl, by rw [cellsS_append, HB0.out]; exact OUT4.out, KW4.out⟩
set_option maxHeartbeats 8000000 in
theorem rCount_any (S : Nat → Prop) (w : World) (rv ov : Value) (a b : Fr) (ha : ReadsF S w rv a) (hb : ReadsF S w ov b) (hs : a.size + b.size ≤ 1000) :
    Calls Try.prog 18 #[.agg #[rv, ov]] w fun e w' => e = .returned (.int .i64 (a.size + b.size : Nat)) ∧ Kept (fun _ => False) w w' := by
  have HA := Lib.hid ha; have HB := Lib.hid hb
  obtain ⟨xa, xc, e1, _⟩ := ha
  obtain ⟨xb, xd, e2, _⟩ := hb
  obtain ⟨n1, hn1⟩ : ∃ n, a.len = n := ⟨_, rfl⟩
  obtain ⟨n2, hn2⟩ : ∃ n, b.len = n := ⟨_, rfl⟩
  rw [hn1] at e1
  rw [hn2] at e2
  subst e1 e2
  clear hn1 hn2
  go_enter Try.func18, Try.ntmps18
  go_wp2_with fail
  refine (rFlat_any S _ _ _ a b (HA.out.kept ((Kept.refl _ w).alloc _)) (HB.out.kept ((Kept.refl _ w).alloc _)) hs).mono ?_
  rintro e w5 ⟨v5, rfl, own5, k5⟩
  obtain ⟨a5, c5, ev⟩ : ∃ x c, v5 = .slice x (a.size + b.size) c := by
    rcases row_form own5 with ⟨q1, q2⟩ | ⟨g', c', q1, _⟩
    · exact ⟨none, 0, by rw [q1, q2]⟩
    · exact ⟨_, _, q1⟩
  subst ev
  have K5 := Lib.hid (keptFF ((Kept.refl (fun _ => False) w).alloc _) k5)
  clear own5 k5
  obtain ⟨n, hn⟩ : ∃ n, a.size + b.size = n := ⟨_, rfl⟩
  rw [hn]
  go_wp2
  go_ret
  exact ⟨by rw [hn]; rfl, K5.out⟩
end Go.Proofs.Ytjidldbolbjdpaa
