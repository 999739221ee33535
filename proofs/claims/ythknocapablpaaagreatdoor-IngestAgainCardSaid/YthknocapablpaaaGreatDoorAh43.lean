/- A part of the proof. -/
import Derived.Test.YthknocapablpaaaGreatDoorAh2
import Derived.Test.YthknocapablpaaaGreatDoorAh4
import Derived.Test.YthknocapablpaaaGreatDoorAh37
import Derived.Test.YthknocapablpaaaGreatDoorAh42
/- IngestAgain of any batches that come, and of whichever come again. -/
namespace Go.Proofs.YthknocapablpaaaGreatDoor
open Go.RowKit Go.Eng
set_option maxRecDepth 100000
theorem s38 : Tryz.prog.stoodInHeld 38 = false := by kernel_rfl
theorem g38 : Tryz.prog.eqGuardType Tryz.prog.depth 38 = false := by kernel_rfl
theorem neq38 (a b c : Int) (w : World) : (binOp .neq 38 (.agg #[.int .i64 a, .int .i64 b, .int .i64 c]) (.agg #[.int .i64 a, .int .i64 b, .int .i64 c])).run Tryz.prog w = .ok (.bool false) w := by
 have q := s38
 have r := g38
 simp [go_sem, q]
theorem ro_kept {η : Env} {h : Heap} {w w' : World} (R : RoHeap Tryz.prog η h w) (K : Kept (fun _ => False) w w') : RoHeap Tryz.prog η h w' := fun n o hn => by
 obtain ⟨h1, t, cs, h2, c, fr, vs, t0, g1, g2⟩ := R n o hn
 have hl : n < w.heap.size := by
  rcases Nat.lt_or_ge n w.heap.size with h | h
  ·exact h
  ·rw [Array.getElem?_eq_none h] at g1; cases g1
 exact ⟨h1, t, cs, h2, c, fr, vs, t0, (K.block n hl (fun h => h)).trans g1, g2⟩
def ReadsU (w : World) (v : Value) (K : List Int) : Prop := ∃ ao cap, v = .slice ao K.length cap ∧ (K = [] ∨ ∃ g o, ao = some ⟨g, o, none⟩ ∧ ∀ (i : Nat) (k : Int), K[i]? = some k → w.cell? ⟨g, o + i, none⟩ = some (.int .u8 k))
theorem ReadsU.keptF {w w' : World} {v : Value} {K : List Int} (h : ReadsU w v K) (hK : Kept (fun _ => False) w w') : ReadsU w' v K := by
 obtain ⟨ao, cap, rfl, h⟩ := h
 refine ⟨ao, cap, rfl, h.imp (fun h => h) ?_⟩
 rintro ⟨g, o, rfl, h2⟩
 exact ⟨g, o, rfl, fun i k hk => hK.cell (h2 i k hk) (fun f => f)⟩
theorem ReadsA.at_ {w : World} {A : List ActP} {i : Nat} {a : ActP} {ao : Option Addr} {cap n : Nat} (h : ReadsA w (.slice ao n cap) A) (ha : A[i]? = some a) : ∃ g o, ao = some ⟨g, o, none⟩ ∧ ActAt w g (o + i * 4) a := by
 obtain ⟨bo, c, e, h⟩ := h
 cases e
 rcases h with rfl | ⟨g, o, e, h⟩
 ·simp at ha
 ·exact ⟨g, o, e, h i a ha⟩
theorem ReadsU.at_ {w : World} {K : List Int} {i : Nat} {k : Int} {ao : Option Addr} {cap n : Nat} (h : ReadsU w (.slice ao n cap) K) (hk : K[i]? = some k) : ∃ g o, ao = some ⟨g, o, none⟩ ∧ w.cell? ⟨g, o + i, none⟩ = some (.int .u8 k) := by
 obtain ⟨bo, c, e, h⟩ := h
 cases e
 rcases h with rfl | ⟨g, o, e, h⟩
 ·simp at hk
 ·exact ⟨g, o, e, h i k hk⟩
theorem turn_old {S : Sto} {own : Nat → Prop} {w0 w w' : World} (K : Kept (fun _ => False) w0 w) (hb : ∀ b, S.turn own b → w0.heap.size ≤ b) (k : Kept (S.turn own) w w') : Kept (fun _ => False) w0 w' :=
 K.trans k (fun _ _ f => f) (fun b hl h => by have := hb b h; omega)
theorem reads_frame {X : Nat → Prop} {w w' : World} {wo : Option Addr} {n c : Nat} {L : List Spn} (h : ReadsS w (.slice wo n c) L) (K : Kept X w w') (hf : ∀ g o n' c', Value.slice wo n c = .slice (some ⟨g, o, none⟩) n' c' → ¬ X g) : ReadsS w' (.slice wo n c) L := by
 obtain ⟨ao, cap, e, h⟩ := h
 refine ⟨ao, cap, e, h.imp (fun h => h) ?_⟩
 rintro ⟨g, o, rfl, f⟩
 exact ⟨g, o, rfl, fun j u hu => K.cell (f j u hu) (hf g o _ _ e)⟩
theorem RowIs.len {T : List Spn} {M : List (Option Spn)} (h : RowIs T M) : M.length ≤ 2 * T.length := by
 obtain ⟨C, _, c2, c3, _⟩ := h
 rw [c3]
 refine Nat.le_trans (Mg.firstF_length C) ?_
 rw [c2.length_eq, seqL_length, cellsL_length]
 exact Nat.le_refl _
theorem own_reads {w : World} {b : Nat} {v : Value} {L : List Spn} (h : w.ownsRow b 96 8 v L.length (cellsS L)) : ReadsS w v L ∧ ∀ g o n c, v = .slice (some ⟨g, o, none⟩) n c → b ≤ g ∧ g < w.heap.size := by
 rcases row_form h with ⟨e, e0⟩ | ⟨g, cap, e, _, hb, hs, f⟩
 ·subst e
  exact ⟨⟨none, 0, by rw [e0], .inl (List.eq_nil_of_length_eq_zero e0)⟩, fun g o n c e => by cases e⟩
 ·subst e
  exact ⟨⟨_, cap, rfl, .inr ⟨g, 0, rfl, fun j u hu => by rw [Nat.zero_add]; exact f j u hu⟩⟩, fun g o n c e => by cases e; exact ⟨hb, hs⟩⟩
set_option maxHeartbeats 8000000 in
theorem ingestAgain_any {η : Env} {w : World} {lv av : Value} {A : List ActP} {K : List Int} (hA : ReadsA w lv A) (hf : FitsA A) (hK : ReadsU w av K) (hk : K.length ≤ 9223372036854775807) (hK8 : ∀ k ∈ K, 0 ≤ k ∧ k ≤ 255) (R : RoHeap Tryz.prog η hOp0 w) :
  Calls Tryz.prog 4 #[lv, av] w fun e w' => e = .returned (.bool true) ∧ Kept (fun _ => False) w w' := by
 have tt : ∀ {a b c : World}, Kept (fun _ => False) a b → Kept (fun _ => False) b c → Kept (fun _ => False) a c := fun h k => h.trans k (fun _ _ h => h) (fun _ _ h => h)
 have ek : ∀ {w1 w2 : World}, Eng.Kept (fun _ => False) w1 w2 → Kept (fun _ => False) w1 w2 := fun k => ⟨k.os, k.tape, k.output, k.size, k.block⟩
 have LV := Lib.hid (fun W (k : Kept (fun _ => False) w W) => lives22_any (η := η) (w := W) (ro_kept R k))
 have OP := Lib.hid (fun W (k : Kept (fun _ => False) w W) => opened_any (η := η) (w := W) (ro_kept R k))
 have BY := Lib.hid (beyondA_all 20 (by decide) hA hf)
 have RA := Lib.hid hA
 have RK := Lib.hid hK
 have HF := Lib.hid hf
 have K8 := Lib.hid hK8
 obtain ⟨ao, ac, rfl, _⟩ := hA
 obtain ⟨ko, kc, rfl, _⟩ := hK
 clear hf hK8 R
 go_enter Tryz.func4, Tryz.ntmps4
 go_wp2_with (go_at_call 9; refine BY.out.mono ?_; rintro e w1 ⟨rfl | ⟨rfl, hr⟩, rfl⟩)
 ·refine (LV.out _ (Kept.refl _ _)).mono ?_
  rintro e w2 ⟨rfl, k2⟩
  go_wp2
  go_ret
  exact ⟨rfl, ek k2⟩
 ·refine (LV.out _ (Kept.refl _ _)).mono ?_
  rintro e w2 ⟨rfl, k2⟩
  go_wp2
  go_ret
  exact ⟨rfl, ek k2⟩
 have h30 : K.length ≤ 30 := by omega
 refine (OP.out _ (Kept.refl _ _)).mono ?_
 rintro e w1 ⟨⟨S, own0, rfl, H0⟩, k1⟩
 obtain ⟨n, hn⟩ : ∃ n, A.length = n := ⟨_, rfl⟩
 have HN := Lib.hid hn
 have AL := Lib.hid hr.2
 have n20 : n ≤ 20 := by rw [← hn]; exact hr.1
 have N20 := Lib.hid n20
 have K1 := Lib.hid k1
 have HH := Lib.hid H0
 have BS : w.heap.size = w.heap.size := rfl
 obtain ⟨B, hB⟩ : ∃ B, w.heap.size = B := ⟨_, rfl⟩
 rw [hB] at HH
 have HB := Lib.hid hB
 rw [hn]
 clear hr hn k1 H0 BS hB BY n20
 go_wp2
 go_loopg [8, 7] n (fun gh ti tn wr => ∃ (i : Nat) (own : Nat → Prop) (T : List Spn) (now : Int), i + gh = n ∧ ti = .int .i64 i ∧ tn = .int .i64 now ∧ (0 ≤ now ∧ now ≤ 255 * i) ∧ Kept (fun _ => False) w wr ∧ HoldT B S own wr (1 + i) (200 + 9300 * i) T ∧ T.length ≤ 8 * i)
 case atStart => exact ⟨0, own0, [], 0, by omega, rfl, rfl, by omega, K1.out, HH.out, by simp⟩
 case round =>
  obtain ⟨i, own, T, now, ji, rfl, rfl, hnow, hkw, hh, ht⟩ := hrel
  have JI := Lib.hid ji
  have KW := Lib.hid hkw
  have H1 := Lib.hid hh
  have TL := Lib.hid ht
  have NW := Lib.hid hnow
  clear ji hkw hh ht HH K1
  have hnw := NW.out
  have nwl : now ≤ 10000 := by have := N20.out; have := JI.out; omega
  by_cases hlt : i < n
  ·have i0 : (i : Int) < (n : Int) := by omega
   have n20 := N20.out
   have i1 : (0 : Int) ≤ (i : Int) := by omega
   obtain ⟨a, ha⟩ : ∃ a, A[i]? = some a := ⟨_, List.getElem?_eq_getElem (by rw [HN.out]; exact hlt)⟩
   have hmem := List.mem_of_getElem? ha
   obtain ⟨g, o, rfl, hc⟩ := (RA.out.keptF KW.out).at_ ha
   obtain ⟨sv, c0, c1, c2, rs, c3⟩ := hc
   have tk := HF.out.ticks a hmem
   have TK := Lib.hid (take_any12 (ho := a.host) (fi := a.first) (now := now + a.ticks) (v := sv) (L := a.spans) H1.out (by have := HB.out; have := KW.out.size; omega) (by omega) rs (AL.out a hmem) (HF.out.fit a hmem) (by have := TL.out; have := N20.out; omega) (by have := N20.out; omega) (by have := N20.out; omega))
   unfold Took at TK
   clear hmem rs ha
   go_wp2_with fail
   refine TK.out.mono ?_
   rintro e w2 ⟨rfl, own', hh2, ho2, hk2⟩
   go_wp2
   go_roundg (n - i - 1)
   case measure => have := JI.out; omega
   case rel =>
    refine ⟨i + 1, own', T ++ tookN (now + a.ticks) T (chkI a.host a.first a.spans) a.spans, now + a.ticks, by have := JI.out; omega, by go_num, rfl, by omega, turn_old KW.out (fun b hb => by have := HB.out; have := H1.out.base b hb; omega) hk2, ?_, ?_⟩
    ·have e1 : 1 + (i + 1) = 1 + i + 1 := by omega
     have e2 : 200 + 9300 * (i + 1) = 200 + 9300 * i + 9300 := by omega
     rw [e1, e2]
     exact hh2
    ·rw [List.length_append]
     have := took_len (now := now + a.ticks) (T := T) (L := a.spans) (ho := a.host) (fi := a.first)
     have := TL.out
     omega
  ·have i0 : ¬ (i : Int) < (n : Int) := by omega
   go_wp2
   go_loopg [9] n (fun gh ti wr => ∃ (j : Nat) (own : Nat → Prop) (T : List Spn), j + gh = n ∧ ti = .int .i64 j ∧ Kept (fun _ => False) w wr ∧ HoldT B S own wr (1 + n + j) (200 + 9300 * (n + j)) T ∧ T.length ≤ 8 * (n + j) ∧ ∀ (x : Nat) (a : ActP), x < j → A[x]? = some a → Settled now T a.host a.first a.spans)
   case atStart =>
    have e := JI.out
    have hin : i = n := by omega
    subst hin
    exact ⟨0, own, T, by omega, rfl, KW.out, H1.out, by have := TL.out; omega, fun x a hx => absurd hx (Nat.not_lt_zero x)⟩
   case round =>
    clear KW H1 TL JI hlt i0 NW
    obtain ⟨j, own, T, ji, rfl, hkw, hh, ht, hs⟩ := hrel
    have JI := Lib.hid ji
    have KW := Lib.hid hkw
    have H1 := Lib.hid hh
    have TL := Lib.hid ht
    have ST := Lib.hid hs
    clear ji hkw hh ht hs
    have n20 := N20.out
    by_cases hlt : j < n
    ·have i0 : (j : Int) < (n : Int) := by omega
     have i1 : (0 : Int) ≤ (j : Int) := by omega
     obtain ⟨a, ha⟩ : ∃ a, A[j]? = some a := ⟨_, List.getElem?_eq_getElem (by rw [HN.out]; exact hlt)⟩
     have hmem := List.mem_of_getElem? ha
     obtain ⟨g, o, rfl, hc⟩ := (RA.out.keptF KW.out).at_ ha
     obtain ⟨sv, c0, c1, c2, rs, c3⟩ := hc
     have TK := Lib.hid (take_any12 (ho := a.host) (fi := a.first) (now := now) (v := sv) (L := a.spans) H1.out (by have := HB.out; have := KW.out.size; omega) (by omega) rs (AL.out a hmem) (HF.out.fit a hmem) (by have := TL.out; omega) (by omega) (by omega))
     unfold Took at TK
     have HA := Lib.hid ha
     clear hmem rs ha
     go_wp2_with fail
     refine TK.out.mono ?_
     rintro e w2 ⟨rfl, own', hh2, ho2, hk2⟩
     go_wp2
     go_roundg (n - j - 1)
     case measure => have := JI.out; omega
     case rel =>
      refine ⟨j + 1, own', T ++ tookN now T (chkI a.host a.first a.spans) a.spans, by have := JI.out; omega, by go_num, turn_old KW.out (fun b hb => by have := HB.out; have := H1.out.base b hb; omega) hk2, ?_, ?_, ?_⟩
      ·have e1 : 1 + n + (j + 1) = 1 + n + j + 1 := by omega
       have e2 : 200 + 9300 * (n + (j + 1)) = 200 + 9300 * (n + j) + 9300 := by omega
       rw [e1, e2]
       exact hh2
      ·rw [List.length_append]
       have := took_len (now := now) (T := T) (L := a.spans) (ho := a.host) (fi := a.first)
       have := TL.out
       omega
      ·intro x b hx hb
       rcases Nat.lt_or_ge x j with h | h
       ·exact settled_more (ST.out x b h hb) took_late
       ·obtain rfl : x = j := by omega
        have := HA.out
        rw [hb] at this
        cases this
        exact settled_took
    ·have i0 : ¬ (j : Int) < (n : Int) := by omega
     have e := JI.out
     have hjn : j = n := by omega
     subst hjn
     obtain ⟨M, hM⟩ := H1.out.row
     have ML := Lib.hid (show (liveM now M).length ≤ 1000000000 from by have := liveM_length now M; have := hM.len; have := TL.out; omega)
     have LQ := Lib.hid (fun W own n' t' (h : HoldT B S own W n' t' T) => live17 (now := now) h hM (by have := TL.out; omega) (by omega))
     have SET := Lib.hid (fun x a (h : A[x]? = some a) => ST.out x a (by have := (List.getElem?_eq_some_iff.1 h).1; rw [HN.out] at this; exact this) h)
     go_wp2_with fail
     refine (LQ.out _ _ _ _ H1.out).mono ?_
     rintro e w2 ⟨⟨wv, rfl, hwv⟩, k2⟩
     have RD := own_reads hwv
     obtain ⟨wo, wc, rfl⟩ := own_slice hwv
     have W2 := Lib.hid (tt KW.out k2)
     have H2 := Lib.hid (H1.out.keptF k2)
     have RD1 := Lib.hid RD.1
     have RD2 := Lib.hid (show ∀ g o n c, (Value.slice wo (liveM now M).length wc) = .slice (some ⟨g, o, none⟩) n c → ¬ S.turn own g ∧ g < w2.heap.size from fun g o n c e => by
      have h1 := RD.2 g o n c e
      exact ⟨fun hg => by have h2 := H1.out.lts.2 g hg; omega, h1.2⟩)
     clear RD hwv k2 KW H1 JI e i0 hlt ST hM
     obtain ⟨q, hq⟩ : ∃ q, K.length = q := ⟨_, rfl⟩
     have HQ := Lib.hid hq
     rw [hq] at h30 ⊢
     clear hq
     go_wp2
     go_loopg [11] q (fun gh ti wr => ∃ (x : Nat) (own : Nat → Prop), x + gh = q ∧ ti = .int .i64 x ∧ Kept (fun _ => False) w wr ∧ HoldT B S own wr (1 + j + j + x) (200 + 9300 * (j + j + x)) T ∧ ReadsS wr (.slice wo (liveM now M).length wc) (liveM now M) ∧ ∀ g o n c, (Value.slice wo (liveM now M).length wc) = .slice (some ⟨g, o, none⟩) n c → ¬ S.turn own g ∧ g < wr.heap.size)
     case atStart => exact ⟨0, own, by omega, rfl, W2.out, by have e1 : 200 + 9300 * (j + j + 0) = 200 + 9300 * (j + j) := by omega
                                                              rw [e1]; exact H2.out, RD1.out, RD2.out⟩
     case round =>
      clear H2 W2 RD1 RD2
      obtain ⟨x, own, jx, rfl, hkw, hh, hrd, hfr⟩ := hrel
      have JX := Lib.hid jx
      have KW := Lib.hid hkw
      have H1 := Lib.hid hh
      have RD := Lib.hid hrd
      have FR := Lib.hid hfr
      clear jx hkw hh hrd hfr
      by_cases hlt : x < q
      ·have x0 : (x : Int) < (q : Int) := by omega
       have x1 : (0 : Int) ≤ (x : Int) := by omega
       by_cases hj0 : 0 < j
       ·have j0 : (0 : Int) < (j : Int) := by omega
        obtain ⟨k, hk⟩ : ∃ k, K[x]? = some k := ⟨_, List.getElem?_eq_getElem (by rw [HQ.out]; exact hlt)⟩
        have k8 := K8.out k (List.mem_of_getElem? hk)
        obtain ⟨ug, uo, rfl, uc⟩ := (RK.out.keptF KW.out).at_ hk
        obtain ⟨y, hy⟩ : ∃ y : Nat, k % (j : Int) = (y : Int) := ⟨(k % (j : Int)).toNat, by have := Int.emod_nonneg k (show (j : Int) ≠ 0 by omega); omega⟩
        have y1 : (y : Int) < (j : Int) := by rw [← hy]; exact Int.emod_lt_of_pos k j0
        have y0 : (0 : Int) ≤ (y : Int) := by omega
        obtain ⟨a, ha⟩ : ∃ a, A[y]? = some a := ⟨_, List.getElem?_eq_getElem (by rw [HN.out]; omega)⟩
        have hmem := List.mem_of_getElem? ha
        obtain ⟨g, o, rfl, hc⟩ := RA.out.at_ ha
        obtain ⟨sv, c0, c1, c2, rs, _⟩ := hc
        obtain ⟨so, scp, rfl, _⟩ := id rs
        have c0 := KW.out.cell c0 (fun f => f)
        have c1 := KW.out.cell c1 (fun f => f)
        have c2 := KW.out.cell c2 (fun f => f)
        have RS := Lib.hid rs
        have FT := Lib.hid (HF.out.fit a hmem)
        have A20 := Lib.hid (AL.out a hmem)
        have SN := Lib.hid (settled_none (SET.out y a ha))
        have CK := Lib.hid (fun W (k : Kept (fun _ => False) w W) => check12 (ho := a.host) (fi := a.first) (RS.out.keptF k) A20.out FT.out)
        have TK := Lib.hid (fun W (h : HoldT B S own W (1 + j + j + x) (200 + 9300 * (j + j + x)) T) (k : Kept (fun _ => False) w W) => take_any12 (ho := a.host) (fi := a.first) (now := now) (L := a.spans) h (by have := HB.out; have := k.size; omega) (by omega) (RS.out.keptF k) A20.out FT.out (by have := TL.out; omega) (by omega) (by omega))
        unfold Took at TK
        rw [SN.out, List.append_nil, List.length_nil] at TK
        obtain ⟨xc, hxc⟩ : ∃ xc, chkI a.host a.first a.spans = xc := ⟨_, rfl⟩
        have RM := Lib.hid (fun (h : xc = 0) => chkI_room (hxc.trans h))
        rw [hxc] at TK CK
        obtain ⟨ln, hln⟩ : ∃ ln, a.spans.length = ln := ⟨_, rfl⟩
        have l20 : ln ≤ 20 := by rw [← hln]; exact A20.out
        rw [hln] at TK CK RM c2
        clear hmem rs ha hxc RS FT A20 SN hln
        have nb : ¬ S.turn own wr.heap.size := fun h => absurd (H1.out.lts.2 _ h) (Nat.lt_irrefl _)
        have NB := Lib.hid nb
        by_cases h0 : xc = 0
        ·subst h0
         rw [show ackV 0 a.host a.first ln 0 = .tuple #[.agg #[.int .i64 a.host, .int .i64 a.first, .int .i64 (a.first + ln)], .int .i64 0, .int .i64 0] from rfl] at TK
         have rm := RM.out rfl
         have rm1 := rm.1
         have rm2 := rm.2
         clear rm RM
         go_wp2_with fail
         refine (TK.out _ (H1.out.keptF ((Kept.refl _ _).alloc _)) (tt KW.out ((Kept.refl _ _).alloc _))).mono ?_
         rintro e w2 ⟨rfl, own', hh2, ho2, hk2⟩
         have b0 := hk2.cell (a := ⟨wr.heap.size, 0, none⟩) (v := .int .i64 a.host) (by go_simp) NB.out
         have b1 := hk2.cell (a := ⟨wr.heap.size, 1, none⟩) (v := .int .i64 a.first) (by go_simp) NB.out
         have b2 := hk2.cell (a := ⟨wr.heap.size, 2, none⟩) (v := .slice so ln scp) (by go_simp) NB.out
         have d0 : ∀ o, (w2.alloc o).cell? ⟨wr.heap.size, 0, none⟩ = some (.int .i64 a.host) := fun o => ((Kept.refl (fun _ => False) w2).alloc o).cell b0 (fun f => f)
         have d1 : ∀ o, (w2.alloc o).cell? ⟨wr.heap.size, 1, none⟩ = some (.int .i64 a.first) := fun o => ((Kept.refl (fun _ => False) w2).alloc o).cell b1 (fun f => f)
         have d2 : ∀ o, (w2.alloc o).cell? ⟨wr.heap.size, 2, none⟩ = some (.slice so ln scp) := fun o => ((Kept.refl (fun _ => False) w2).alloc o).cell b2 (fun f => f)
         have K2 := Lib.hid (turn_old (tt KW.out ((Kept.refl _ _).alloc _)) (fun b hb => by have := HB.out; have := H1.out.base b hb; omega) hk2)
         have R2 := Lib.hid (reads_frame (RD.out.keptF ((Kept.refl _ _).alloc _)) hk2 fun g o n c e => (FR.out g o n c e).1)
         have H2 := Lib.hid hh2
         have F2 := Lib.hid (show ∀ g o n c, (Value.slice wo (liveM now M).length wc) = .slice (some ⟨g, o, none⟩) n c → ¬ S.turn own' g ∧ g < w2.heap.size from fun g o n c e => by
          have h := FR.out g o n c e
          have hs := hk2.size
          simp at hs
          refine ⟨fun q => ?_, by omega⟩
          rcases q with q | q
          ·rcases ho2 _ q with q | q
           ·exact h.1 (.inl q)
           ·simp at q; omega
          ·exact h.1 (.inr q))
         clear b0 b1 b2 hk2 ho2 hh2 TK
         go_wp2_with fail
         refine (CK.out _ (tt K2.out ((Kept.refl _ _).alloc _))).mono ?_
         rintro e w3 ⟨rfl, k3⟩
         have b0 := k3.cell (d0 _) (fun f => f)
         have b1 := k3.cell (d1 _) (fun f => f)
         have b2 := k3.cell (d2 _) (fun f => f)
         have a0 := k3.cell (a := ⟨w2.heap.size, 0, none⟩) (v := .int .i64 a.host) (by go_simp) (fun f => f)
         have a1 := k3.cell (a := ⟨w2.heap.size, 1, none⟩) (v := .int .i64 a.first) (by go_simp) (fun f => f)
         have a2 := k3.cell (a := ⟨w2.heap.size, 2, none⟩) (v := .int .i64 (a.first + ln)) (by go_simp) (fun f => f)
         have k23 := tt ((Kept.refl (fun _ => False) w2).alloc _) k3
         have K3 := Lib.hid (tt K2.out k23)
         have R3 := Lib.hid (R2.out.keptF k23)
         have H3 := Lib.hid (H2.out.keptF k23)
         have F3 := Lib.hid (show ∀ g o n c, (Value.slice wo (liveM now M).length wc) = .slice (some ⟨g, o, none⟩) n c → ¬ S.turn own' g ∧ g < w3.heap.size from fun g o n c e => ⟨(F2.out g o n c e).1, Nat.lt_of_lt_of_le (F2.out g o n c e).2 k23.size⟩)
         clear k3 k23 d0 d1 d2
         have N38 := neq38
         go_wp2
         go_roundg (q - x - 1)
         case measure => have := JX.out; omega
         case rel =>
          refine ⟨x + 1, own', by have := JX.out; omega, by go_num, K3.out, ?_, R3.out, F3.out⟩
          have e1 : 1 + j + j + (x + 1) = 1 + j + j + x + 1 := by omega
          have e2 : 200 + 9300 * (j + j + (x + 1)) = 200 + 9300 * (j + j + x) + 9300 := by omega
          rw [e1, e2]
          exact H3.out
        ·rw [show ackV xc a.host a.first ln 0 = .tuple #[.agg #[.int .i64 0, .int .i64 0, .int .i64 0], .int .i64 0, .int .i64 xc] by unfold ackV; rw [show decide (xc = 0) = false by simpa using h0]] at TK
         have e0 : (xc == 0) = false := by simpa using h0
         clear RM
         go_wp2_with fail
         refine (TK.out _ (H1.out.keptF ((Kept.refl _ _).alloc _)) (tt KW.out ((Kept.refl _ _).alloc _))).mono ?_
         rintro e w2 ⟨rfl, own', hh2, ho2, hk2⟩
         have b0 := hk2.cell (a := ⟨wr.heap.size, 0, none⟩) (v := .int .i64 a.host) (by go_simp) NB.out
         have b1 := hk2.cell (a := ⟨wr.heap.size, 1, none⟩) (v := .int .i64 a.first) (by go_simp) NB.out
         have b2 := hk2.cell (a := ⟨wr.heap.size, 2, none⟩) (v := .slice so ln scp) (by go_simp) NB.out
         have d0 : ∀ o, (w2.alloc o).cell? ⟨wr.heap.size, 0, none⟩ = some (.int .i64 a.host) := fun o => ((Kept.refl (fun _ => False) w2).alloc o).cell b0 (fun f => f)
         have d1 : ∀ o, (w2.alloc o).cell? ⟨wr.heap.size, 1, none⟩ = some (.int .i64 a.first) := fun o => ((Kept.refl (fun _ => False) w2).alloc o).cell b1 (fun f => f)
         have d2 : ∀ o, (w2.alloc o).cell? ⟨wr.heap.size, 2, none⟩ = some (.slice so ln scp) := fun o => ((Kept.refl (fun _ => False) w2).alloc o).cell b2 (fun f => f)
         have K2 := Lib.hid (turn_old (tt KW.out ((Kept.refl _ _).alloc _)) (fun b hb => by have := HB.out; have := H1.out.base b hb; omega) hk2)
         have R2 := Lib.hid (reads_frame (RD.out.keptF ((Kept.refl _ _).alloc _)) hk2 fun g o n c e => (FR.out g o n c e).1)
         have H2 := Lib.hid hh2
         have F2 := Lib.hid (show ∀ g o n c, (Value.slice wo (liveM now M).length wc) = .slice (some ⟨g, o, none⟩) n c → ¬ S.turn own' g ∧ g < w2.heap.size from fun g o n c e => by
          have h := FR.out g o n c e
          have hs := hk2.size
          simp at hs
          refine ⟨fun q => ?_, by omega⟩
          rcases q with q | q
          ·rcases ho2 _ q with q | q
           ·exact h.1 (.inl q)
           ·simp at q; omega
          ·exact h.1 (.inr q))
         clear b0 b1 b2 hk2 ho2 hh2 TK
         go_wp2_with fail
         refine (CK.out _ (tt K2.out ((Kept.refl _ _).alloc _))).mono ?_
         rintro e w3 ⟨rfl, k3⟩
         have b0 := k3.cell (d0 _) (fun f => f)
         have b1 := k3.cell (d1 _) (fun f => f)
         have b2 := k3.cell (d2 _) (fun f => f)
         have a0 := k3.cell (a := ⟨w2.heap.size, 0, none⟩) (v := .int .i64 0) (by go_simp) (fun f => f)
         have a1 := k3.cell (a := ⟨w2.heap.size, 1, none⟩) (v := .int .i64 0) (by go_simp) (fun f => f)
         have a2 := k3.cell (a := ⟨w2.heap.size, 2, none⟩) (v := .int .i64 0) (by go_simp) (fun f => f)
         have k23 := tt ((Kept.refl (fun _ => False) w2).alloc _) k3
         have K3 := Lib.hid (tt K2.out k23)
         have R3 := Lib.hid (R2.out.keptF k23)
         have H3 := Lib.hid (H2.out.keptF k23)
         have F3 := Lib.hid (show ∀ g o n c, (Value.slice wo (liveM now M).length wc) = .slice (some ⟨g, o, none⟩) n c → ¬ S.turn own' g ∧ g < w3.heap.size from fun g o n c e => ⟨(F2.out g o n c e).1, Nat.lt_of_lt_of_le (F2.out g o n c e).2 k23.size⟩)
         clear k3 k23 d0 d1 d2
         have N38 := neq38
         go_wp2
         go_roundg (q - x - 1)
         case measure => have := JX.out; omega
         case rel =>
          refine ⟨x + 1, own', by have := JX.out; omega, by go_num, K3.out, ?_, R3.out, F3.out⟩
          have e1 : 1 + j + j + (x + 1) = 1 + j + j + x + 1 := by omega
          have e2 : 200 + 9300 * (j + j + (x + 1)) = 200 + 9300 * (j + j + x) + 9300 := by omega
          rw [e1, e2]
          exact H3.out
       ·have j0 : ¬ (0 : Int) < (j : Int) := by omega
        go_wp2_with fail
        refine (LQ.out _ _ _ _ H1.out).mono ?_
        rintro e w3 ⟨⟨v2, rfl, hv2⟩, k3⟩
        have RV := (own_reads hv2).1
        obtain ⟨vo, vc, rfl⟩ := own_slice hv2
        have SM := Lib.hid (same_refl w3 _ _ (liveM now M) RV (RD.out.keptF k3) ML.out)
        have W3 := Lib.hid (tt KW.out k3)
        clear RV hv2 k3 LQ
        go_wp2_with fail
        refine SM.out.mono ?_
        rintro e w4 ⟨rfl, k4⟩
        have W4 := Lib.hid (tt W3.out k4)
        clear k4
        go_wp2_with fail
        refine (LV.out _ W4.out).mono ?_
        rintro e w5 ⟨rfl, k5⟩
        go_wp2
        go_ret
        exact ⟨rfl, tt W4.out (ek k5)⟩
      ·have x0 : ¬ (x : Int) < (q : Int) := by omega
       go_wp2_with fail
       refine (LQ.out _ _ _ _ H1.out).mono ?_
       rintro e w3 ⟨⟨v2, rfl, hv2⟩, k3⟩
       have RV := (own_reads hv2).1
       obtain ⟨vo, vc, rfl⟩ := own_slice hv2
       have SM := Lib.hid (same_refl w3 _ _ (liveM now M) RV (RD.out.keptF k3) ML.out)
       have W3 := Lib.hid (tt KW.out k3)
       clear RV hv2 k3 LQ
       go_wp2_with fail
       refine SM.out.mono ?_
       rintro e w4 ⟨rfl, k4⟩
       have W4 := Lib.hid (tt W3.out k4)
       clear k4
       go_wp2_with fail
       refine (LV.out _ W4.out).mono ?_
       rintro e w5 ⟨rfl, k5⟩
       go_wp2
       go_ret
       exact ⟨rfl, tt W4.out (ek k5)⟩
end Go.Proofs.YthknocapablpaaaGreatDoor
