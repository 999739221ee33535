/- (*wood).cycles. -/
import Derived.Test.YtjidldbolbjdpaaRow1
namespace Go.Proofs.Ytjidldbolbjdpaa
open Go.RowKit

abbrev nats (P : List Nat) : List Value := P.map (fun k => .int .i64 ((k : Nat) : Int))
theorem nats_at {P : List Nat} {i : Nat} (h : i < P.length) : (nats P)[i]? = some (.int .i64 ((nth P i : Nat) : Int)) := by
  simp [nats, nth_get h]
theorem bools_at {P : List Bool} {i : Nat} (h : i < P.length) : (bools P)[i]? = some (.bool (nth P i)) := by
  simp [bools, nth_get h]
theorem nats_set (P : List Nat) (i k : Nat) : (nats P).set i (.int .i64 ((k : Nat) : Int)) = nats (P.set i k) := by simp [nats]
theorem bools_set (P : List Bool) (i : Nat) (k : Bool) : (bools P).set i (.bool k) = bools (P.set i k) := by simp [bools]
theorem nats_zero (n : Nat) : List.replicate n (Value.int .i64 0) = nats (List.replicate n 0) := by simp [nats]
theorem nth_zero (n i : Nat) : nth (List.replicate n (0 : Nat)) i = 0 := by
  unfold nth
  rw [List.getD_eq_getElem?_getD, List.getElem?_replicate]
  split <;> rfl
/-- No round of a walk that ended elsewhere lies where it ended. -/
theorem Wlk.out {p : Nat → Option Nat} {n i t x : Nat} {sn0 sn : Nat → Nat} (h : Wlk p n i sn0 sn t) (hx : x < n) (h0 : sn x ≠ 0) (h1 : sn x ≠ i + 1) : sn0 x ≠ 0 := by
  rw [← h.off x hx (fun s hs e => h1 (h.on s hs x e))]; exact h0

theorem Wlk.cyc {p : Nat → Option Nat} {n i t x : Nat} {sn0 sn : Nat → Nat} (h : Wlk p n i sn0 sn t) (he : it p t i = some x) (hx : x < n) (h0 : sn0 x ≤ i) (h1 : sn x = i + 1) : OnCyc p x := by
  by_cases c : ∃ s, s < t ∧ it p s i = some x
  · obtain ⟨s, a, b⟩ := c
    exact ⟨t - s, by omega, by rw [← it_add' b, show s + (t - s) = t by omega]; exact he⟩
  · have := h.off x hx (fun s a b => c ⟨s, a, b⟩)
    omega

set_option maxHeartbeats 8000000 in
set_option maxRecDepth 100000 in
theorem cycles_any (w : World) (B wb n caps gp cp gh : Nat) (aos ap : Option Addr) (H : List Bool) (p : Nat → Option Nat) (lost : Nat → Bool)
    (h0 : w.cell? ⟨wb, 0, none⟩ = some (.slice aos n caps)) (h1 : w.cell? ⟨wb, 1, none⟩ = some (.slice ap n cp)) (h2 : w.cell? ⟨wb, 2, none⟩ = some (.slice (some ⟨gh, 0, none⟩) n n))
    (hap : 0 < n → ap = some ⟨gp, 0, none⟩) (hpar : ∀ x, x < n → w.cell? ⟨gp, x, none⟩ = some (.int .i64 (pInt (p x))))
    (hown : w.ownsRow B 4 1 (.slice (some ⟨gh, 0, none⟩) n n) n (bools H)) (hHl : H.length = n) (hH : ∀ x, x < n → nth H x = lost x)
    (hpn : ∀ x y, x < n → p x = some y → y < n) (hlost : ∀ x, lost x = true → p x = none) (hn : n ≤ 1000) (hwb : wb ≠ gh) (hgp : gp ≠ gh) :
    Calls Try.prog 35 #[.pointer (some ⟨wb, 0, none⟩)] w fun e w' => e = .returned (.tuple #[]) ∧ ∃ H', w'.ownsRow B 4 1 (.slice (some ⟨gh, 0, none⟩) n n) n (bools H') ∧ H'.length = n ∧ (∀ x, x < n → (nth H' x = true ↔ lost x = true ∨ Least p x)) ∧ Kept (fun k => k = gh) w w' := by
  have HAP := Lib.hid hap; have HPAR := Lib.hid hpar; have HOWN := Lib.hid hown; have HH := Lib.hid hH; have HPN := Lib.hid hpn; have HLOST := Lib.hid hlost; have HHL := Lib.hid hHl
  have C0 := Lib.hid h0; have C1 := Lib.hid h1; have C2 := Lib.hid h2
  have HW := Lib.hid hwb; have HG := Lib.hid hgp
  have hghl : gh < w.heap.size := by
    rcases row_form hown with ⟨e, _⟩ | ⟨g, c, e, _, _, h, _⟩
    · cases e
    · cases e; exact h
  have HGL := Lib.hid hghl
  clear hap hpar hown hH hpn hlost hHl hwb hgp hghl h1 h2
  obtain ⟨i3, hi3, hz3⟩ : ∃ i, Try.prog.info? 3 = some i ∧ (i.zero, i.size, i.bytes) = (some (.int .i64 0), 1, 8) := by
    have := inf3
    cases h : Try.prog.info? 3 with
    | none => simp [h] at this
    | some i => exact ⟨i, rfl, by simpa [h] using this⟩
  obtain ⟨z3, s3, b3⟩ : i3.zero = some (.int .i64 0) ∧ i3.size = 1 ∧ i3.bytes = 8 := by simpa using hz3
  clear hz3
  go_enter Try.func35, Try.ntmps35
  go_wp2_with (refine wpList_make1 (by rfl) 49 _ _ (by rfl) w.heap.size 3 i3 _ 8 Try.underlying49 hi3 z3 s3 b3 rfl n (by rfl) (by rfl) hn (by decide) (Nat.le_refl _) ?_)
  intro w1 hs0 hk1 hsz1
  obtain ⟨gs, hgs⟩ : ∃ g, w.heap.size = g := ⟨_, rfl⟩
  rw [hgs] at hs0 ⊢
  have HGS := Lib.hid hgs; have HS0 := Lib.hid hs0; have K1 := Lib.hid hk1
  clear hgs hs0 hk1 hsz1
  have d0 := K1.out.cell h0 (fun f => f)
  clear h0
  go_wp2
  go_loopg [18] n (fun ghv s wr => ∃ (i : Nat) (Sn : List Nat) (Hs : List Bool), i + ghv = n ∧ s = .int .i64 i ∧ Sn.length = n ∧ Hs.length = n ∧ wr.ownsRow gs 3 1 (.slice (some ⟨gs, 0, none⟩) n n) n (nats Sn) ∧ wr.ownsRow B 4 1 (.slice (some ⟨gh, 0, none⟩) n n) n (bools Hs) ∧ Seen p n lost i (nth Sn) (nth Hs) ∧ Kept (fun k => k = gh) w wr)
  case atStart => exact ⟨0, List.replicate n 0, H, by omega, by go_num, by simp, HHL.out, by rw [← nats_zero]; rw [← HGS.out] at HS0 ⊢; exact HS0.out, own_keptS HOWN.out K1.out (fun _ _ f => f), ⟨fun x _ h => absurd (nth_zero n x) h, fun x h => by omega, fun x _ => by rw [nth_zero]; omega, fun x _ h => absurd (nth_zero n x) h, fun x hx _ => HH.out x hx⟩, K1.out.mono (fun _ _ f => f.elim)⟩
  case round =>
    obtain ⟨i, Sn, Hs, hg1, rfl, hsl, hhl, hso, hho, hseen, hk⟩ := hrel
    have G1 := Lib.hid hg1; have SL := Lib.hid hsl; have HL := Lib.hid hhl; have SO := Lib.hid hso; have HO := Lib.hid hho; have SEEN := Lib.hid hseen; have KK := Lib.hid hk
    clear hg1 hsl hhl hso hho hseen hk
    by_cases hin : i < n
    · have i0 : (i : Int) < (n : Int) := by omega
      have e1 : IntKind.i64.wrap ((i : Int) + 1) = ((i + 1 : Nat) : Int) := IntWalk.i64_in _ (by omega)
      obtain rfl := HAP.out (by omega)
      clear HAP
      go_wp2
      go_loopg [4] n (fun ghv2 a wr2 => ∃ (t : Nat) (Sn2 : List Nat), t + ghv2 = n ∧ a = .int .i64 (pInt (it p t i)) ∧ Sn2.length = n ∧ wr2.ownsRow gs 3 1 (.slice (some ⟨gs, 0, none⟩) n n) n (nats Sn2) ∧ wr2.ownsRow B 4 1 (.slice (some ⟨gh, 0, none⟩) n n) n (bools Hs) ∧ Wlk p n i (nth Sn) (nth Sn2) t ∧ Kept (fun k => k = gh) w wr2)
      case atStart => exact ⟨0, Sn, by omega, by go_num, SL.out, SO.out, HO.out, Wlk.start p n i _, KK.out⟩
      case round =>
        obtain ⟨t, Sn2, hg2, rfl, hsl2, hso2, hho2, hwlk, hk2⟩ := hrel
        have G2 := Lib.hid hg2; have SL2 := Lib.hid hsl2; have SO2 := Lib.hid hso2; have HO2 := Lib.hid hho2; have WLK := Lib.hid hwlk; have K2 := Lib.hid hk2
        clear hg2 hsl2 hso2 hho2 hwlk hk2
        have ne1 : ¬ (wb = gh) := HW.out
        have c1 := K2.out.cell C1.out ne1
        have c2 := K2.out.cell C2.out ne1
        clear ne1
        cases hx : it p t i with
        | none =>
          have HX := Lib.hid hx
          clear hx
          simp only [pInt]
          go_wp2
          go_roundg (n - (i + 1))
          case measure => have := G1.out; omega
          case rel => exact ⟨i + 1, Sn2, Hs, by omega, by go_num, SL2.out, HL.out, SO2.out, HO2.out, SEEN.out.plain WLK.out HPN.out hin (.inl HX.out), K2.out⟩
        | some x =>
          have HX := Lib.hid hx
          have hxn : x < n := it_lt HPN.out hin hx
          clear hx
          simp only [pInt]
          have x0 : (0 : Int) ≤ (x : Int) := by omega
          have x1 : (x : Int) < (n : Int) := by omega
          have x2 : ((x : Int) != -1) = true := by simp
          have x3 : ((x : Int) == -1) = false := by simp
          have cs := own_cell SO2.out (nats_at (by rw [SL2.out]; exact hxn))
          have cp1 := Lib.hid (K2.out.cell (HPAR.out x hxn) HG.out)
          have fz := Lib.hid (SO2.out.frozenAt)
          by_cases z : nth Sn2 x = 0
          · have z1 : (((nth Sn2 x : Nat) : Int) == 0) = true := by simp [z]
            have sz := Lib.hid z
            clear z
            have WLK2 := Lib.hid (WLK.out.step (sn' := nth (Sn2.set x (i + 1))) HX.out hxn sz.out (by rw [nth_set _ _ _ _ (by rw [SL2.out]; exact hxn), if_pos rfl]) (fun y _ hne => by rw [nth_set _ _ _ _ (by rw [SL2.out]; exact hxn), if_neg hne]) HPN.out hin)
            have ts := Lib.hid (WLK2.out.short HPN.out hin)
            have B1 := Lib.hid (show wb ≠ gs ∧ gp ≠ gs ∧ gh ≠ gs from by
              have q1 := World.block_lt_of_cell? _ _ C0.out
              have q2 := World.block_lt_of_cell? _ _ (HPAR.out x hxn)
              have q3 := HGL.out
              have q4 := HGS.out
              simp only at q1 q2
              omega)
            go_wp2_with (refine wpList_store1 (by rfl) 3 _ _ (by rfl) gs x (.int .i64 ((i + 1 : Nat) : Int)) (by rfl) (by rfl) (by rw [cs]; rfl) (fz.out _) sz3 rfl rfl ?_; intro W hW; have KP := Lib.hid (show Kept (fun k => k = gs) wr W from by rw [hW]; exact kept_put wr gs x _); have SO3 := Lib.hid (show W.ownsRow gs 3 1 (.slice (some ⟨gs, 0, none⟩) n n) n (nats (Sn2.set x (i + 1))) from by rw [hW, ← nats_set]; exact own_put SO2.out x _); have cpW := KP.out.cell cp1.out B1.out.2.1; have c1W := KP.out.cell c1 B1.out.1; clear hW cs c1 c2)
            go_roundg (n - (t + 1))
            case measure => have := G2.out; have := ts.out; omega
            case rel => exact ⟨t + 1, Sn2.set x (i + 1), by have := ts.out; omega, by simp [it, HX.out], by simpa using SL2.out, SO3.out, own_keptS HO2.out KP.out (fun _ h f => by cases h; exact B1.out.2.2 f), WLK2.out, K2.out.trans KP.out (fun _ _ h => h) (fun k h1 h2 => by have := HGS.out; omega)⟩
          · have z1 : (((nth Sn2 x : Nat) : Int) == 0) = false := by simp; omega
            by_cases zi : nth Sn2 x = i + 1
            · have z2 : (((nth Sn2 x : Nat) : Int) != ((i + 1 : Nat) : Int)) = false := by simp; omega
              have OC := Lib.hid (WLK.out.cyc HX.out hxn (by have := SEEN.out.le x hxn; exact this) zi)
              have ZI := Lib.hid zi
              clear z zi
              obtain ⟨k1, hk1⟩ := cyc_some OC.out 1
              simp only [it, Option.bind_some] at hk1
              have cp2 : wr.cell? ⟨gp, x, none⟩ = some (.int .i64 ((k1 : Nat) : Int)) := by rw [cp1.out, hk1]; rfl
              have RN := Lib.hid (Rnd.start hk1)
              obtain ⟨cl, hcl0, hcl, hcx⟩ := cyc_short HPN.out hxn OC.out
              have CX := Lib.hid hcx; have CL0 := Lib.hid hcl0
              clear hk1 hcx hcl0
              go_wp2
              go_loopg [5, 6] n (fun ghv3 a3 b3 wr3 => ∃ (r k l : Nat), r + ghv3 = n + 1 ∧ Rnd p x r k l ∧ a3 = .int .i64 l ∧ b3 = .int .i64 k ∧ wr = wr3)
              case atStart => exact ⟨1, k1, x, by omega, RN.out, by go_num, by go_num, rfl⟩
              case round =>
                obtain ⟨r, k, l, hg3, hrn, rfl, rfl, rfl⟩ := hrel
                have G3 := Lib.hid hg3; have RN2 := Lib.hid hrn
                clear hg3 hrn
                have HKN := Lib.hid (show k < n from it_lt HPN.out hxn RN2.out.here)
                have HLN := Lib.hid (show l < n from it_lt HPN.out hxn RN2.out.has.choose_spec.2)
                by_cases hkx : k = x
                · obtain rfl := hkx
                  have y1 : ((k : Int) != (k : Int)) = false := by simp
                  have l0 : (0 : Int) ≤ (l : Int) := by omega
                  have l1 : (l : Int) < (n : Int) := by have := HLN.out; omega
                  have ch := own_cell HO2.out (bools_at (i := l) (by rw [HL.out]; exact HLN.out))
                  have fh := Lib.hid (HO2.out.frozenAt)
                  have B1 := Lib.hid (show gh ≠ gs from by
                    have q3 := HGL.out
                    have q4 := HGS.out
                    omega)
                  go_wp2_with (refine wpList_store1 (by rfl) 4 _ _ (by rfl) gh l (.bool true) (by rfl) (by rfl) (by rw [ch]; rfl) (fh.out _) sz4 rfl rfl ?_; intro W hW; have KP := Lib.hid (show Kept (fun k => k = gh) wr W from by rw [hW]; exact kept_put wr gh l _); have HO3 := Lib.hid (show W.ownsRow B 4 1 (.slice (some ⟨gh, 0, none⟩) n n) n (bools (Hs.set l true)) from by rw [hW, ← bools_set]; exact own_put HO2.out l _); clear hW ch)
                  go_roundg (n - (i + 1))
                  case measure => have := G1.out; omega
                  case rel => exact ⟨i + 1, Sn2, Hs.set l true, by omega, by go_num, SL2.out, by simpa using HL.out, own_keptS SO2.out KP.out (fun _ h f => by cases h; exact B1.out f.symm), HO3.out, SEEN.out.cycle WLK.out HPN.out hin HLOST.out HX.out ZI.out RN2.out.done.1 RN2.out.done.2 (by rw [nth_set _ _ _ _ (by rw [HL.out]; exact HLN.out), if_pos rfl]) (fun y _ hne => by rw [nth_set _ _ _ _ (by rw [HL.out]; exact HLN.out), if_neg hne]), K2.out.trans KP.out (fun _ _ h => h) (fun _ _ h => h)⟩
                · have y1 : ((k : Int) != (x : Int)) = true := by simp; omega
                  have HKX := Lib.hid hkx
                  clear hkx
                  obtain ⟨k2, hk2⟩ := cyc_some (cyc_along (show OnCyc p x from ⟨cl, CL0.out, CX.out⟩) RN2.out.here) 1
                  simp only [it, Option.bind_some] at hk2
                  have k0 : (0 : Int) ≤ (k : Int) := by omega
                  have k3 : (k : Int) < (n : Int) := by have := HKN.out; omega
                  have cp3 : wr.cell? ⟨gp, k, none⟩ = some (.int .i64 ((k2 : Nat) : Int)) := by rw [K2.out.cell (HPAR.out k HKN.out) HG.out, hk2]; rfl
                  have RN3 := Lib.hid (RN2.out.next HKX.out hk2)
                  have SH := Lib.hid (RN3.out.short CL0.out CX.out)
                  clear hk2
                  go_wp2
                  go_roundg (n + 1 - (r + 1))
                  case measure => have := G3.out; have := SH.out; omega
                  case rel => exact ⟨r + 1, k2, Nat.min l k, by have := SH.out; have := G3.out; omega, RN3.out, congrArg (Value.int .i64) (show min (l : Int) (k : Int) = ((Nat.min l k : Nat) : Int) from by rcases Nat.lt_or_ge k l with h | h; (· rw [show Nat.min l k = k from Nat.min_eq_right (by omega)]; omega); (· rw [show Nat.min l k = l from Nat.min_eq_left (by omega)]; omega)), rfl, rfl⟩
            · have z2 : (((nth Sn2 x : Nat) : Int) != ((i + 1 : Nat) : Int)) = true := by simp; omega
              have OUT := Lib.hid (WLK.out.out hxn z zi)
              clear z zi
              go_wp2
              go_roundg (n - (i + 1))
              case measure => have := G1.out; omega
              case rel => exact ⟨i + 1, Sn2, Hs, by omega, by go_num, SL2.out, HL.out, SO2.out, HO2.out, SEEN.out.plain WLK.out HPN.out hin (.inr ⟨x, HX.out, OUT.out⟩), K2.out⟩
    · have i0 : ¬ (i : Int) < (n : Int) := by omega
      go_wp2
      go_end0
      have E1 : i = n := by have := G1.out; omega
      subst E1
      exact ⟨rfl, Hs, HO.out, HL.out, fun x hx => SEEN.out.seen x hx (SEEN.out.upto x hx hx), KK.out⟩
end Go.Proofs.Ytjidldbolbjdpaa
