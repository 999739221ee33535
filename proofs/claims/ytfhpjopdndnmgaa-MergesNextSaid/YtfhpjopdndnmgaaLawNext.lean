/- MergesNext, walked whole: at every input it returns true. -/
import Derived.Test.YtfhpjopdndnmgaaIter
namespace Go.Proofs.Ytfhpjopdndnmgaa
open Go.RowKit

set_option maxRecDepth 100000 in
set_option maxHeartbeats 8000000 in
theorem mergesNext_any (w : World) (v0 : Value) (L : List (List Cel)) (h : ReadsR w v0 L) (hlen : L.length ≤ 9223372036854775807) (hfit : ∀ R ∈ L, R.length ≤ 9223372036854775807 ∧ ∀ c ∈ R, c.k.size ≤ 9223372036854775807 ∧ c.v.size ≤ 9223372036854775807) :
    Calls Try.prog 4 #[v0] w fun e w' => e = .returned (.bool true) ∧ Below w.heap.size w w' := by
  have GA := Lib.hid (great_any w v0 L h hlen hfit)
  have H := Lib.hid h
  clear h hlen hfit
  have hor : greatB L = true ∨ greatB L = false := by cases greatB L <;> simp
  rcases hor with hg | hg
  · have G := Lib.hid hg; clear hg
    go_enter Try.func4, Try.ntmps4
    go_wp2_with (go_at_call 9; refine GA.out.mono ?_; rw [G.out]; rintro e w1 ⟨rfl, rfl⟩)
    go_ret
    exact ⟨rfl, Below.refl _ _⟩
  · have hf := greatB_false.1 hg
    have hL : L.length ≤ 20 := hf.2.1
    have hR : ∀ R ∈ L, R.length ≤ 1000 := fun R hr => by have := (hf.1 R hr).1; omega
    have ht : total L ≤ 300 := hf.2.2
    have G := Lib.hid hg; have LR := Lib.hid hR; have LT := Lib.hid (show total L ≤ 1000 by omega); have LL := Lib.hid (show L.length ≤ 50 by omega)
    clear hg hf hR
    go_enter Try.func4, Try.ntmps4
    go_wp2_with fail
    refine GA.out.mono ?_
    rw [G.out]; rintro e w0 ⟨rfl, rfl⟩
    go_wp2_with fail
    refine (twins_any w v0 L H.out LL.out LR.out).mono ?_
    rintro e w1 ⟨vt, us, rfl, ot, tt, k1⟩
    have OT1 := Lib.hid ot; have TT1 := Lib.hid tt; have K1 := Lib.hid k1
    clear ot tt k1
    have hcap : ∃ (gt : Option Addr) (cT : Nat), vt = .slice gt L.length cT ∧ (0 < L.length → ∃ g, gt = some ⟨g, 0, none⟩ ∧ Hulls w1 w.heap.size w1.heap.size g L) := by
      rcases row_form OT1.out with ⟨rfl, hn⟩ | ⟨g, c, rfl, _, _, _, h4⟩
      · exact ⟨none, 0, by rw [hn], fun h => by omega⟩
      · exact ⟨_, c, rfl, fun _ => ⟨g, rfl, hulls_of TT1.out h4⟩⟩
    obtain ⟨gt, cT, rfl, hhl⟩ := hcap
    have HHL := Lib.hid hhl; clear hhl
    go_wp2_with fail
    refine (new_any w1 _ L (twins_read OT1.out TT1.out) LL.out LR.out).mono ?_
    rintro e w2 ⟨k2, h2⟩
    have hcase : ∃ (ok : Bool) (x : Option Addr) (M : List Cel), e = .returned (.tuple #[.pointer x, .int .i64 (if ok then 0 else 2)]) ∧ x.isNone = (!ok) ∧ L.all sortedB = ok ∧ M = (if ok then mergeL L else []) ∧ IterAt w2 w1.heap.size w2.heap.size w2.heap.size x M := by
      rcases h2 with ⟨ha, rfl⟩ | ⟨ha, p, v, l, rfl, hi, hp⟩
      · exact ⟨false, none, [], rfl, rfl, ha, rfl, .inl ⟨rfl, rfl⟩⟩
      · refine ⟨true, some ⟨p, 0, none⟩, mergeL L, rfl, rfl, ha, rfl, .inr ⟨p, v, l, rfl, hi, fun b hb => ⟨hi.mine b hb, ?_⟩, ?_⟩⟩
        · have := hi.own_lt b (.inl hb); exact .inl this
        · rw [total_perm l L hp]; exact drain_merge _ l L hi.hp (fun r hr => (hi.heap.good r hr).ne) hp
    obtain ⟨ok, x, M, rfl, hx, ha, hM, hit⟩ := hcase
    clear h2
    have K2 := Lib.hid (keptFF K1.out k2); have K12 := Lib.hid k2; have IT2 := Lib.hid hit
    obtain ⟨er, her⟩ : ∃ er : Int, (if ok then 0 else 2) = er := ⟨_, rfl⟩
    have her0 : (er == 0) = ok := by rw [← her]; cases ok <;> rfl
    rw [her]
    have HM := Lib.hid hM
    have hMl : M.length ≤ 300 := by
      rw [hM]; split
      · exact Nat.le_trans (merge_le L) ht
      · simp
    have HA := Lib.hid ha; have HER := Lib.hid her
    clear k2 hit hM ha her
    go_wp2_with fail
    refine (rall_any w2 v0 L (H.out.keptF K2.out) LL.out LR.out LT.out).mono ?_
    rintro e w3 ⟨k3, h3⟩
    have hcase : ∃ (aW : Option Addr) (cW : Nat), e = .returned (.tuple #[.slice aW M.length cW, .int .i64 er]) ∧ (M = [] ∨ ∃ gW oW, aW = some ⟨gW, oW, none⟩ ∧ w2.heap.size ≤ gW ∧ gW < w3.heap.size ∧ ∀ j u, (cellsC M)[j]? = some u → w3.cell? ⟨gW, oW + j, none⟩ = some u) := by
      have hm := HM.out; have ho := HA.out; have he := HER.out
      rcases h3 with ⟨h, rfl⟩ | ⟨h, u, rfl, o3⟩
      · rw [h] at ho; subst ho; subst he; subst hm
        exact ⟨none, 0, rfl, .inl rfl⟩
      · rw [h] at ho; subst ho; subst he
        rw [if_pos rfl] at hm
        subst hm
        rcases row_form o3 with ⟨rfl, hn⟩ | ⟨g, c, rfl, h1, h2, h3, h4⟩
        · exact ⟨none, 0, by rw [hn]; rfl, .inl (List.eq_nil_of_length_eq_zero hn)⟩
        · exact ⟨_, c, rfl, .inr ⟨g, 0, rfl, h2, h3, fun j u hu => by rw [Nat.zero_add]; exact h4 j u hu⟩⟩
    obtain ⟨aW, cW, rfl, hW⟩ := hcase
    have her1 : (er != 0) = (!ok) := by rw [bne, her0]
    have her2 : ((!ok) == (!ok)) = true := by simp
    have hne : ∀ W, (binOp .eql 32 (.pointer x) (.pointer none)).run Try.prog W = .ok (.bool (!ok)) W := by
      intro W; rw [← hx]; cases x <;> simp [go_sem]
    have K3 := Lib.hid (keptFF K2.out k3); have K23 := Lib.hid k3; have WW := Lib.hid hW
    have IT3 := Lib.hid (show IterAt w3 w1.heap.size w2.heap.size w3.heap.size x M from by
      rcases IT2.out with h | ⟨p, v, l, rfl, hi, hm, hd⟩
      · exact .inl h
      · exact .inr ⟨p, v, l, rfl, hi.kept k3, fun b hb => ⟨(hm b hb).1, .inl (by have := hi.own_lt b (.inl hb); omega)⟩, hd⟩)
    have s1 := K1.out.size
    have s2 := K12.out.size
    have s3 := k3.size
    have HH3 := Lib.hid (show 0 < L.length → ∃ g, gt = some ⟨g, 0, none⟩ ∧ Hulls w3 w.heap.size w1.heap.size g L from fun h => by
      obtain ⟨g, e, hh⟩ := HHL.out h
      exact ⟨g, e, hh.keptF (keptFF K12.out k3) (Nat.le_refl _)⟩)
    clear h3 k3 hW hx
    go_wp2
    go_loopg [8] L.length (fun gh t wr => ∃ k : Nat, k + gh = L.length ∧ t = .int .i64 k ∧ (0 < L.length → ∃ g, gt = some ⟨g, 0, none⟩ ∧ Hulls wr w.heap.size w1.heap.size g L) ∧ Kept (fun b => w.heap.size ≤ b ∧ b < w1.heap.size) w3 wr)
    case atStart => exact ⟨0, by omega, rfl, HH3.out, Kept.refl _ _⟩
    case round =>
      obtain ⟨k, hk, rfl, hh, KA⟩ := hrel
      have hk1 : k ≤ L.length := by omega
      have JK := Lib.hid hk; have KF := Lib.hid KA; have HK := Lib.hid hh
      clear hk KA hh
      by_cases hlt : k < L.length
      · obtain ⟨g, rfl, hh⟩ := HK.out (by omega)
        obtain ⟨R, hR⟩ : ∃ R, L[k]? = some R := ⟨_, List.getElem?_eq_getElem hlt⟩
        have RK := Lib.hid hR
        have hrl := LR.out R (List.mem_of_getElem? hR)
        obtain ⟨b, cap, u0, hbg, hb0, hb1, _⟩ := hh k R hR
        have HU := Lib.hid hh
        have i1 : (0 : Int) ≤ (k : Int) := by omega
        have i2 : (k : Int) < (L.length : Int) := by omega
        clear hh hR
        go_wp2
        go_loopg [9] R.length (fun gh t wr => ∃ q : Nat, q + gh = R.length ∧ t = .int .i64 q ∧ Hulls wr w.heap.size w1.heap.size g L ∧ wr.cell? ⟨g, k, none⟩ = some (.slice (some ⟨b, 0, none⟩) R.length cap) ∧ Kept (fun b => w.heap.size ≤ b ∧ b < w1.heap.size) w3 wr)
        case atStart => exact ⟨0, by omega, rfl, HU.out, u0, KF.out⟩
        case round =>
          obtain ⟨q, hq, rfl, hh, u0, KQ⟩ := hrel
          have hq1 : q ≤ R.length := by omega
          have JQ := Lib.hid hq; have KFq := Lib.hid KQ; have HU := Lib.hid hh
          clear hq KQ
          by_cases hql : q < R.length
          · obtain ⟨b', cap', u0', _, _, _, hc, hfz⟩ := hh k R RK.out
            rw [u0] at u0'
            simp only [Option.some.injEq, Value.slice.injEq, Addr.mk.injEq, and_true, true_and] at u0'
            obtain ⟨rfl, rfl⟩ := u0'
            obtain ⟨x0, c0⟩ := hc (q * 3) (by omega)
            obtain ⟨x1, c1⟩ := hc (q * 3 + 1) (by omega)
            obtain ⟨x2, c2⟩ := hc (q * 3 + 2) (by omega)
            have i3 : (0 : Int) ≤ (q : Int) := by omega
            have i4 : (q : Int) < (R.length : Int) := by omega
            clear hc hh
            go_wp2
            go_roundg (R.length - q - 1)
            case measure => have := JQ.out; omega
            case rel =>
              refine ⟨q + 1, by omega, by go_num, ?_, ?_, ?_⟩
              · exact ((HU.out.store hbg _).store hbg _).store hbg _
              · have hgb : ¬ g = b := fun e => hbg e.symm
                exact (Kept.setAt (S := fun k => k = b) (fun _ => rfl) (Kept.setAt (fun _ => rfl) (Kept.setAt (fun _ => rfl) (Kept.refl _ wr)))).cell u0 hgb
              · exact Kept.setAt (fun _ => ⟨hb0, hb1⟩) (Kept.setAt (fun _ => ⟨hb0, hb1⟩) (Kept.setAt (fun _ => ⟨hb0, hb1⟩) KFq.out))
          · have e3 : ¬ (q : Int) < (R.length : Int) := by omega
            clear hh
            go_wp2
            go_roundg (L.length - k - 1)
            case measure => have := JK.out; omega
            case rel => exact ⟨k + 1, by omega, by go_num, fun _ => ⟨g, rfl, HU.out⟩, KFq.out⟩
      · have e3 : ¬ (k : Int) < (L.length : Int) := by omega
        obtain ⟨wz, rfl⟩ : ∃ wz, wz = wr := ⟨_, rfl⟩
        have ITz := Lib.hid (IT3.out.keptS KF.out (fun b hb h => by omega))
        have sz := KF.out.size
        have WZ := Lib.hid (show M = [] ∨ ∃ gW oW, aW = some ⟨gW, oW, none⟩ ∧ w2.heap.size ≤ gW ∧ gW < w3.heap.size ∧ ∀ j u, (cellsC M)[j]? = some u → wz.cell? ⟨gW, oW + j, none⟩ = some u from by
          rcases WW.out with h | ⟨gW, oW, e, h1, h2, h3⟩
          · exact .inl h
          · exact .inr ⟨gW, oW, e, h1, h2, fun j u hu => KF.out.cell (h3 j u hu) (fun h => by simp only at h; omega)⟩)
        clear hlt
        go_wp2
        go_loopg [10] M.length (fun gh t wr => ∃ k : Nat, k + gh = M.length ∧ t = .int .i64 k ∧ IterAt wr w1.heap.size w2.heap.size w3.heap.size x (M.drop k) ∧ Kept (fun b => w1.heap.size ≤ b ∧ (b < w2.heap.size ∨ w3.heap.size ≤ b)) wz wr)
        case atStart => exact ⟨0, by omega, rfl, by simpa using ITz.out, Kept.refl _ _⟩
        case round =>
          obtain ⟨k, hk, rfl, hit, KA⟩ := hrel
          have hk1 : k ≤ M.length := by omega
          have JK := Lib.hid hk; have KG := Lib.hid KA; have ITk := Lib.hid hit
          clear hk KA hit
          have sg := KG.out.size
          by_cases hlt : k < M.length
          · obtain ⟨c, hc⟩ : ∃ c, M[k]? = some c := ⟨_, List.getElem?_eq_getElem hlt⟩
            have hdr : M.drop k = c :: M.drop (k + 1) := by
              rw [List.drop_eq_getElem_cons hlt]
              rw [List.getElem?_eq_getElem hlt] at hc
              rw [Option.some.inj hc]
            have IC := Lib.hid (hdr ▸ ITk.out); have MC := Lib.hid hc
            have i1 : (0 : Int) ≤ (k : Int) := by omega
            have i2 : (k : Int) < (M.length : Int) := by omega
            clear hc hdr
            go_wp2_with fail
            refine (next_law IC.out (by omega) (by omega)).mono ?_
            rintro e w4 (⟨h, _⟩ | ⟨c', t', h, rfl, it4, k4⟩)
            · cases h
            obtain ⟨rfl, rfl⟩ := List.cons.inj h
            have K4 := Lib.hid (KG.out.trans k4 (fun _ _ h => h) (fun _ _ h => h) : Kept (fun b => w1.heap.size ≤ b ∧ (b < w2.heap.size ∨ w3.heap.size ≤ b)) wz w4)
            have I4 := Lib.hid it4
            clear k4 it4 h
            obtain ⟨n0, n1, n2, _, _⟩ := (Kept.refl (fun _ => False) (w4.alloc (Obj.cells #[Value.string c.k, Value.int IntKind.i64 c.s, Value.string c.v] 36))).fresh3 (fun f => f)
            rcases WZ.out with h0 | ⟨gW, oW, rfl, hg1, hg2, hcW⟩
            · exact absurd hlt (by rw [h0]; simp)
            obtain ⟨d0, d1, d2⟩ := ReadsC.at hcW MC.out
            have K5 := Lib.hid (K4.out.alloc (Obj.cells #[Value.string c.k, Value.int IntKind.i64 c.s, Value.string c.v] 36))
            have I5 := Lib.hid (I4.out.keptS (((Kept.refl (fun _ => False) w4).alloc (Obj.cells #[Value.string c.k, Value.int IntKind.i64 c.s, Value.string c.v] 36)).drew) (fun _ _ f => f))
            have m0 := K5.out.cell d0 (fun h => by simp only at h; omega)
            have m1 := K5.out.cell d1 (fun h => by simp only at h; omega)
            have m2 := K5.out.cell d2 (fun h => by simp only at h; omega)
            have q0 := s36
            have q1 := g36
            have q2 := neq36
            have q3 : eqC c c = true := eqC_true.2 rfl
            clear hcW d0 d1 d2 hg1 hg2
            go_wp2
            refine wp_region_held_drew (S := (fun w' => w'.cell? ⟨w4.heap.size, 0, none⟩ = some (.string c.k) ∧ w'.cell? ⟨w4.heap.size, 1, none⟩ = some (.int .i64 c.s) ∧ w'.cell? ⟨w4.heap.size, 2, none⟩ = some (.string c.v) ∧ w'.cell? ⟨gW, oW + k * 3, none⟩ = some (.string c.k) ∧ w'.cell? ⟨gW, oW + k * 3 + 1, none⟩ = some (.int .i64 c.s) ∧ w'.cell? ⟨gW, oW + k * 3 + 2, none⟩ = some (.string c.v))) (by kernel_rfl) ?_ (fun hHeld => ?_)
            · exact ⟨n0, n1, n2, m0, m1, m2⟩
            refine wpAnyH_take (i := 0) (v := ?_) opAt0 (by kernel_rfl) (by kernel_rfl) (by kernel_rfl) (fun _ _ _ h => h) (Or.inl ⟨by rfl, ?_⟩) hHeld ?_
            case refine_2 => (intro w hSw; (try dsimp only at hSw); go_simp; all_goals (with_reducible rfl))
            (try simp only [Act.put]); (try simp only [List.setIfInBounds_toArray]); (try simp only [List.set_cons_succ]); (try simp only [List.set_cons_zero])
            refine wpAnyH_take (i := 1) (v := ?_) opAt1 (by kernel_rfl) (by kernel_rfl) (by kernel_rfl) (fun _ _ _ h => h) (Or.inl ⟨by rfl, ?_⟩) hHeld ?_
            case refine_2 => (intro w hSw; (try dsimp only at hSw); go_simp; all_goals (with_reducible rfl))
            (try simp only [Act.put]); (try simp only [List.setIfInBounds_toArray]); (try simp only [List.set_cons_succ]); (try simp only [List.set_cons_zero])
            refine wpAnyH_take (i := 2) (v := ?_) opAt2 (by kernel_rfl) (by kernel_rfl) (by kernel_rfl) (fun _ _ _ h => h) (Or.inl ⟨by rfl, ?_⟩) hHeld ?_
            case refine_2 => (intro w hSw; (try dsimp only at hSw); go_simp; all_goals (with_reducible rfl))
            (try simp only [Act.put]); (try simp only [List.setIfInBounds_toArray]); (try simp only [List.set_cons_succ]); (try simp only [List.set_cons_zero])
            refine wpAnyH_take (i := 3) (v := ?_) opAt3 (by kernel_rfl) (by kernel_rfl) (by kernel_rfl) (fun _ _ _ h => h) (Or.inl ⟨by rfl, ?_⟩) hHeld ?_
            case refine_2 => (intro w hSw; (try dsimp only at hSw); go_simp; all_goals (with_reducible rfl))
            (try simp only [Act.put]); (try simp only [List.setIfInBounds_toArray]); (try simp only [List.set_cons_succ]); (try simp only [List.set_cons_zero])
            refine wpAnyH_take (i := 4) (v := ?_) opAt4 (by kernel_rfl) (by kernel_rfl) (by kernel_rfl) (fun _ _ _ h => h) (Or.inl ⟨by rfl, ?_⟩) hHeld ?_
            case refine_2 => (intro w hSw; (try dsimp only at hSw); go_simp; all_goals (with_reducible rfl))
            (try simp only [Act.put]); (try simp only [List.setIfInBounds_toArray]); (try simp only [List.set_cons_succ]); (try simp only [List.set_cons_zero])
            refine wpAnyH_take (i := 5) (v := ?_) opAt5 (by kernel_rfl) (by kernel_rfl) (by kernel_rfl) (fun _ _ _ h => h) (Or.inl ⟨by rfl, ?_⟩) hHeld ?_
            case refine_2 => (intro w hSw; (try dsimp only at hSw); go_simp; all_goals (with_reducible rfl))
            (try simp only [Act.put]); (try simp only [List.setIfInBounds_toArray]); (try simp only [List.set_cons_succ]); (try simp only [List.set_cons_zero])
            refine wpAnyH_take (i := 6) (v := ?_) opAt6 (by kernel_rfl) (by kernel_rfl) (by kernel_rfl) (fun _ _ _ h => h) (Or.inl ⟨by rfl, ?_⟩) hHeld ?_
            case refine_2 => (intro w hSw; (try dsimp only at hSw); go_simp; all_goals (with_reducible rfl))
            (try simp only [Act.put]); (try simp only [List.setIfInBounds_toArray]); (try simp only [List.set_cons_succ]); (try simp only [List.set_cons_zero])
            refine wpAnyH_take (i := 7) (v := ?_) opAt7 (by kernel_rfl) (by kernel_rfl) (by kernel_rfl) (fun _ _ _ h => h) (Or.inl ⟨by rfl, ?_⟩) hHeld ?_
            case refine_2 => (intro w hSw; (try dsimp only at hSw); go_simp; all_goals (with_reducible rfl))
            (try simp only [Act.put]); (try simp only [List.setIfInBounds_toArray]); (try simp only [List.set_cons_succ]); (try simp only [List.set_cons_zero])
            refine wpAnyH_take (i := 8) (v := ?_) opAt8 (by kernel_rfl) (by kernel_rfl) (by kernel_rfl) (fun _ _ _ h => h) (Or.inl ⟨by rfl, ?_⟩) hHeld ?_
            case refine_2 => (intro w hSw; (try dsimp only at hSw); go_simp; all_goals (with_reducible rfl))
            (try simp only [Act.put]); (try simp only [List.setIfInBounds_toArray]); (try simp only [List.set_cons_succ]); (try simp only [List.set_cons_zero])
            refine wpAnyH_take (i := 9) (v := ?_) opAt9 (by kernel_rfl) (by kernel_rfl) (by kernel_rfl) (fun _ _ _ h => h) (Or.inl ⟨by rfl, ?_⟩) hHeld ?_
            case refine_2 => (intro w hSw; (try dsimp only at hSw); go_simp; all_goals (with_reducible rfl))
            (try simp only [Act.put]); (try simp only [List.setIfInBounds_toArray]); (try simp only [List.set_cons_succ]); (try simp only [List.set_cons_zero])
            refine wpAnyH_done (by kernel_rfl) ?_ _
            go_wp2
            go_roundg (M.length - k - 1)
            case measure => have := JK.out; omega
            case rel => exact ⟨k + 1, by omega, by go_num, I5.out, K5.out.drew⟩
          · have e3 : ¬ (k : Int) < (M.length : Int) := by omega
            have hk2 : k = M.length := by omega
            have IE := Lib.hid (show IterAt wr w1.heap.size w2.heap.size w3.heap.size x [] from by have := ITk.out; rwa [hk2, List.drop_length] at this)
            have nq : ∀ W, (binOp .neq 36 (.agg #[.string ⟨#[]⟩, .int .i64 0, .string ⟨#[]⟩]) (.agg #[.string ⟨#[]⟩, .int .i64 0, .string ⟨#[]⟩])).run Try.prog W = .ok (.bool false) W := fun W => by
              have := neq36 ⟨⟨#[]⟩, 0, ⟨#[]⟩⟩ ⟨⟨#[]⟩, 0, ⟨#[]⟩⟩ W
              rw [eqC_true.2 rfl] at this; exact this
            have q0 := s36
            have q1 := g36
            clear hk2
            go_wp2
            go_loopg [13] 3 (fun gh t wr => ∃ r : Nat, r + gh = 3 ∧ t = .int .i64 r ∧ IterAt wr w1.heap.size w2.heap.size w3.heap.size x [] ∧ Kept (fun b => w1.heap.size ≤ b ∧ (b < w2.heap.size ∨ w3.heap.size ≤ b)) wz wr)
            case atStart => exact ⟨0, by omega, rfl, IE.out, KG.out⟩
            case round =>
              obtain ⟨r, hr, rfl, hit, KA⟩ := hrel
              have JR := Lib.hid hr; have KH := Lib.hid KA; have ITr := Lib.hid hit
              have hr1 : r ≤ 3 := by omega
              clear hr KA hit
              have sh := KH.out.size
              by_cases hrl : r < 3
              · have i1 : (r : Int) < 3 := by omega
                go_wp2_with fail
                refine (next_law ITr.out (by omega) (by omega)).mono ?_
                rintro e w4 (⟨_, rfl, k4⟩ | ⟨c', t', h, _⟩)
                · have K4 := Lib.hid (KH.out.trans k4 (fun _ _ h => h) (fun _ _ f => f.elim) : Kept (fun b => w1.heap.size ≤ b ∧ (b < w2.heap.size ∨ w3.heap.size ≤ b)) wz w4)
                  have I4 := Lib.hid (ITr.out.keptS k4 (fun _ _ f => f))
                  clear k4
                  go_wp2
                  go_roundg (3 - r - 1)
                  case measure => have := JR.out; omega
                  case rel => exact ⟨r + 1, by omega, by go_num, I4.out.keptS ((Kept.refl (fun _ => False) w4).alloc _) (fun _ _ f => f), K4.out.alloc _⟩
                · cases h
              · have e4 : ¬ (r : Int) < 3 := by omega
                have HE := Lib.hid (show HeapAt (wr.alloc (.cells #[.slice none 0 0] 42)) wr.heap.size wr.heap.size (.slice none 0 0) [] from ⟨by simp [go_sem], by simp [go_sem], World.ownsRow_nil _ _ _ _, by simp, by simp [Value.ownBlock], by simp, by simp⟩)
                go_wp2_with fail
                refine (next_none HE.out rfl).mono ?_
                rintro e w5 ⟨rfl, k5⟩
                have K5 := Lib.hid (keptFF ((Kept.refl (fun _ => False) wr).alloc _) k5); clear k5
                go_wp2_with fail
                refine (does_any _).mono ?_
                rintro e w6 ⟨rfl, k6⟩
                have K6 := Lib.hid (keptFF (K5.out.alloc _) k6); clear k6
                go_wp2
                go_ret
                exact ⟨rfl, (((K3.out.below (fun _ _ f => f)).step (Nat.le_refl _) KF.out (fun i h => h.1)).step (Nat.le_refl _) KH.out (fun i h => by omega)).step (Nat.le_refl _) K6.out (fun _ f => f.elim)⟩
end Go.Proofs.Ytfhpjopdndnmgaa
