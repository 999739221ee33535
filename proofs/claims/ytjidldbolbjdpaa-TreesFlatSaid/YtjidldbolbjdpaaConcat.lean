/- slices.Grow, slices.Concat over nodes. -/
import Derived.Test.YtjidldbolbjdpaaRflat
import Derived.Lib.AppendZeros
namespace Go.Proofs.Ytjidldbolbjdpaa
open Go.RowKit

/-- The items of a list of nodes as it lies. -/
theorem rowF_items {S : Nat → Prop} {w : World} {g : Nat} : ∀ (f : Fr) (o : Nat), RowF S w g o f → ∃ l : List NR, frN l = f ∧ (∀ x ∈ l, ReadsF S w x.v x.f) ∧ ∀ j u, (cellsN l)[j]? = some u → w.cell? ⟨g, o + j, none⟩ = some u
  | .nil, _, _ => ⟨[], rfl, fun _ h => (by cases h), fun j u h => by simp [cellsN] at h⟩
  | .cons s k r, o, h => by
    obtain ⟨_, hs, ⟨ao, cap, hk, hr⟩, ht⟩ := h
    obtain ⟨l, e, h1, h2⟩ := rowF_items r (o + 9) ht
    refine ⟨⟨s, .slice ao k.len cap, k⟩ :: l, by simp [frN, e], fun x hx => ?_, fun j u hu => ?_⟩
    · rcases List.mem_cons.1 hx with rfl | hx
      · exact ⟨ao, cap, rfl, hr⟩
      · exact h1 x hx
    · rw [cellsN] at hu
      have h9 : (s.cells ++ [Value.slice ao k.len cap]).length = 9 := by simp [Spn.cells]
      by_cases hj : j < 9
      · rw [List.getElem?_append_left (by simp only; omega)] at hu
        by_cases h8 : j < 8
        · rw [List.getElem?_append_left (by simp [Spn.cells]; omega)] at hu
          exact hs j u hu
        · obtain rfl : j = 8 := by omega
          have : u = .slice ao k.len cap := by simp [Spn.cells] at hu; exact hu.symm
          rw [this]; exact hk
      · rw [List.getElem?_append_right (by simp only; omega)] at hu
        have := h2 (j - 9) u (by simp only [h9] at hu; exact hu)
        rwa [show o + 9 + (j - 9) = o + j by omega] at this
theorem readsF_items {S : Nat → Prop} {w : World} {v : Value} {f : Fr} (h : ReadsF S w v f) : ∃ l : List NR, frN l = f ∧ (∀ x ∈ l, ReadsF S w x.v x.f) ∧ Src w v l.length (cellsN l) := by
  obtain ⟨ao, cap, rfl, h⟩ := h
  rcases h with rfl | ⟨g, o, rfl, h⟩
  · cases ao with
    | none => exact ⟨[], rfl, fun _ h => (by cases h), none, cap, rfl, .inl ⟨rfl, rfl, rfl⟩⟩
    | some a => exact ⟨[], rfl, fun _ h => (by cases h), some a, cap, rfl, .inr ⟨a, rfl, fun j u h => by simp [cellsN] at h⟩⟩
  · obtain ⟨l, e, h1, h2⟩ := rowF_items f o h
    exact ⟨l, e, h1, _, cap, by rw [← e, frN_len], .inr ⟨_, rfl, fun j u hu => by rw [add_mid]; exact h2 j u hu⟩⟩
theorem cellsN_one {S : Nat → Prop} {w : World} : ∀ (l : List NR), (∀ x ∈ l, ReadsF S w x.v x.f) → ∀ u ∈ cellsN l, u.oneCell' = true
  | [], _, u, hu => by simp [cellsN] at hu
  | x :: t, h, u, hu => by
    rw [cellsN] at hu
    rcases List.mem_append.1 hu with hu | hu
    · obtain ⟨a, c, e, _⟩ := h x (by simp)
      rcases List.mem_append.1 hu with hu | hu
      · simp [Spn.cells] at hu
        rcases hu with rfl | rfl | rfl | rfl | rfl | rfl | rfl | rfl <;> rfl
      · rw [List.mem_singleton.1 hu, e]; rfl
    · exact cellsN_one t (fun y hy => h y (by simp [hy])) u hu

set_option maxHeartbeats 4000000 in
theorem grow_any (w : World) (n : Nat) (hn : n ≤ 100000) :
    Calls Try.prog 48 #[.slice none 0 0, .int .i64 n] w fun e w' => ∃ ao c, e = .returned (.slice ao 0 c) ∧ w'.ownsRow w.heap.size 39 9 (.slice ao 0 c) 0 [] ∧ Kept (fun _ => False) w w' := by
  obtain ⟨i39, hi39, z39, s39, b39⟩ := info_parts inf39
  have n0 : ¬ (n : Int) < 0 := by omega
  have e1 : IntKind.i64.wrap ((n : Int) - 0) = (n : Int) := by rw [Int.sub_zero]; exact IntWalk.i64_in _ (by omega)
  have e2 : IntKind.i64.wrap (n : Int) = (n : Int) := IntWalk.i64_in _ (by omega)
  by_cases hz : n = 0
  · subst hz
    go_enter Try.func48, Try.ntmps48
    go_wp2
    go_ret
    exact ⟨none, 0, rfl, own_nil _ _ _ _, Kept.refl _ _⟩
  · have n1 : (0 : Int) < (n : Int) := by omega
    have hr := Lib.run_append_nil_zeros (P := Try.prog) w 26 3 26 39 i39 _ .i64 .i64 Try.underlying26 Try.underlying3 hi39 z39 n (by omega) (by rw [s39]; omega) (by omega) (by rw [b39]; omega)
    obtain ⟨cap, hcap⟩ : ∃ c, grownCap w n 0 39 = c := ⟨_, rfl⟩
    have hc1 : n ≤ cap := by rw [← hcap]; exact grownCap_ge w n 0 39
    have hc2 : cap ≤ maxLen := by rw [← hcap]; exact grownCap_le_maxLen w n 0 39 (by unfold maxLen; omega)
    rw [hcap] at hr
    obtain ⟨W, hW⟩ : ∃ W, w.drew.alloc (.cells (Builtin.zeroCells (Value.agg zero9.toArray).cells n ++ Builtin.zeroCells (Value.agg zero9.toArray).cells (cap - n)) 39) = W := ⟨_, rfl⟩
    have hO : W.ownsRow w.heap.size 39 9 (.slice (some ⟨w.heap.size, 0, none⟩) 0 cap) 0 [] := by
      refine ⟨rfl, .inr ⟨w.heap.size, cap, Builtin.zeroCells (Value.agg zero9.toArray).cells n ++ Builtin.zeroCells (Value.agg zero9.toArray).cells (cap - n), rfl, Nat.le_refl _, ?_, Nat.zero_le _, hc2, ?_, by simp⟩⟩
      · rw [← hW]; exact heap_alloc_new w.drew _
      · rw [Array.size_append, size_zeroCells, size_zeroCells]
        have : (Value.agg zero9.toArray).cells.size = 9 := rfl
        rw [this, ← Nat.add_mul]; congr 1; omega
    have hK : Kept (fun _ => False) w W := by rw [← hW]; exact ((Kept.refl _ w).drew).alloc _
    rw [hW] at hr
    have OO := Lib.hid hO; have KK := Lib.hid hK
    have HR := Lib.hid (show ∀ ty, (Builtin.append_ #[26, 3] ty #[.slice none 0 0, .int .i64 n]).run Try.prog w = .ok (.slice (some ⟨w.heap.size, 0, none⟩) n cap) W from fun ty => hr)
    have hc0 : (0 : Int) ≤ (cap : Int) := by omega
    clear hr hO hK hW hcap hz e2
    go_enter Try.func48, Try.ntmps48
    go_wp2_with (at_builtin; refine Lib.wpList_append_run _ rfl _ _ _ _ rfl _ _ rfl rfl _ _ (HR.out _) ?_)
    go_ret
    exact ⟨_, _, rfl, OO.out, KK.out⟩

theorem grown_reads {S : Nat → Prop} {w : World} {b0 n : Nat} {v : Value} {l : List NR} (h : w.ownsRow b0 39 9 v n (cellsN l)) (hn : l.length = n) (hk : ∀ x ∈ l, ReadsF S w x.v x.f) : ReadsF (fun k => S k ∨ b0 ≤ k) w v (frN l) := by
  rcases row_form h with ⟨e1, e2⟩ | ⟨g, c, e1, _, hb, _, hc⟩
  · obtain rfl := List.eq_nil_of_length_eq_zero (hn.trans e2)
    exact ⟨none, 0, e1, .inl rfl⟩
  · refine ⟨_, c, by rw [e1, frN_len, hn], .inr ⟨g, 0, rfl, rowF_of (.inr hb) l 0 (fun x hx => ?_) (fun j u hu => by rw [Nat.zero_add]; exact hc j u hu)⟩⟩
    exact (hk x hx).keptS (Kept.refl (fun _ => False) w) (fun _ _ _ f => f) (fun _ _ h => .inl h)

set_option maxHeartbeats 4000000 in
set_option maxRecDepth 100000 in
theorem concat_any (S : Nat → Prop) (w : World) (sb : Nat) (va vb : Value) (a b : Fr) (h0 : w.cell? ⟨sb, 0, none⟩ = some va) (h1 : w.cell? ⟨sb, 1, none⟩ = some vb) (ha : ReadsF S w va a) (hb : ReadsF S w vb b) (hl : a.len + b.len ≤ 3000) :
    Calls Try.prog 39 #[.slice (some ⟨sb, 0, none⟩) 2 2] w fun e w' => ∃ v, e = .returned v ∧ ReadsF (fun k => S k ∨ w.heap.size ≤ k) w' v (a.app b) ∧ (∀ x n c, v = .slice x n c → n ≤ c) ∧ Kept (fun _ => False) w w' := by
  obtain ⟨la, ea, ka, sa⟩ := readsF_items ha
  obtain ⟨lb, eb, kb, sb'⟩ := readsF_items hb
  obtain ⟨na, hna⟩ : ∃ n, la.length = n := ⟨_, rfl⟩
  obtain ⟨nb, hnb⟩ : ∃ n, lb.length = n := ⟨_, rfl⟩
  have hl1 : na + nb ≤ 3000 := by rw [← ea, ← eb, frN_len, frN_len] at hl; omega
  rw [hna] at sa
  rw [hnb] at sb'
  obtain ⟨xa, ca, eva, _⟩ := id sa
  obtain ⟨xb, cb, evb, _⟩ := id sb'
  subst eva evb
  have LA := Lib.hid hna; have LB := Lib.hid hnb; have EA := Lib.hid ea; have EB := Lib.hid eb; have KA := Lib.hid ka; have KB := Lib.hid kb; have SA := Lib.hid sa; have SB := Lib.hid sb'
  have C0 := Lib.hid h0; have C1 := Lib.hid h1
  have ONA := Lib.hid (cellsN_one la ka); have ONB := Lib.hid (cellsN_one lb kb)
  clear hna hnb ea eb ka kb sa sb' ha hb hl
  obtain ⟨i39, hi39, z39, s39, b39⟩ := info_parts inf39
  obtain ⟨tot, htot⟩ : ∃ t, na + nb = t := ⟨_, rfl⟩
  rw [htot] at hl1
  have HT := Lib.hid htot
  have m0 : ¬ (na : Int) < 0 := by omega
  have m1 : ¬ (tot : Int) < 0 := by omega
  have hna2 : na ≤ 3000 := by omega
  have hnb2 : nb ≤ 3000 := by omega
  have e0 : IntKind.i64.wrap (na : Int) = (na : Int) := IntWalk.i64_in _ (by omega)
  have e1 : IntKind.i64.wrap ((na : Int) + (nb : Int)) = (tot : Int) := by rw [show (na : Int) + (nb : Int) = (tot : Int) by omega]; exact IntWalk.i64_in _ (by omega)
  clear htot
  go_enter Try.func39, Try.ntmps39
  go_wp2
  go_loopg [3, 11] 2 (fun ghv s3 s11 wr => w = wr ∧ ((ghv = 2 ∧ s11 = .int .i64 0 ∧ s3 = .int .i64 0) ∨ (ghv = 1 ∧ s11 = .int .i64 1 ∧ s3 = .int .i64 na) ∨ (ghv = 0 ∧ s11 = .int .i64 2 ∧ s3 = .int .i64 tot)))
  case atStart => exact ⟨rfl, .inl ⟨rfl, by go_num, by go_num⟩⟩
  case round =>
    obtain ⟨rfl, ⟨rfl, rfl, rfl⟩ | ⟨rfl, rfl, rfl⟩ | ⟨rfl, rfl, rfl⟩⟩ := hrel
    · go_wp2
      go_roundg 1
      case measure => omega
      case rel => exact ⟨rfl, .inr (.inl ⟨rfl, by go_num, by go_num⟩)⟩
    · go_wp2
      go_roundg 0
      case measure => omega
      case rel => exact ⟨rfl, .inr (.inr ⟨rfl, by go_num, by go_num⟩)⟩
    · go_wp2_with fail
      refine (grow_any w tot (by omega)).mono ?_
      rintro e w1 ⟨ao, c, rfl, own1, k1⟩
      obtain ⟨b0, hb0⟩ : ∃ n, w.heap.size = n := ⟨_, rfl⟩
      rw [hb0] at own1
      have HB0 := Lib.hid hb0; have O1 := Lib.hid own1; have K1 := Lib.hid k1
      clear hb0 own1 k1 h0 h1
      go_wp2
      go_loopg [6, 27] 2 (fun ghv s6 s27 wr => Kept (fun _ => False) w wr ∧ ((ghv = 2 ∧ s27 = .int .i64 0 ∧ s6 = .slice ao 0 c ∧ wr.ownsRow b0 39 9 (.slice ao 0 c) 0 []) ∨ (ghv = 1 ∧ s27 = .int .i64 1 ∧ ∃ x c, s6 = .slice x na c ∧ wr.ownsRow b0 39 9 (.slice x na c) na (cellsN la)) ∨ (ghv = 0 ∧ s27 = .int .i64 2 ∧ ∃ x c, s6 = .slice x tot c ∧ wr.ownsRow b0 39 9 (.slice x tot c) tot (cellsN la ++ cellsN lb))))
      case atStart => exact ⟨K1.out, .inl ⟨rfl, by go_num, rfl, O1.out⟩⟩
      case round =>
        obtain ⟨kk, ⟨rfl, rfl, rfl, own⟩ | ⟨rfl, rfl, x, c, rfl, own⟩ | ⟨rfl, rfl, x, c, rfl, own⟩⟩ := hrel
        · have KK := Lib.hid kk; have OW := Lib.hid own
          have h0 := kk.cell C0.out (fun f => f)
          have B0 := Lib.hid (show b0 ≤ wr.heap.size from by have h1 := HB0.out; have h2 := kk.size; omega)
          clear kk own
          go_wp2_with (at_builtin; (refine wpList_step (fun _ hK => step_appG (by rfl) _ _ 26 (by rfl) b0 39 i39 _ 9 112 Try.underlying26 hi39 z39 s39 b39 (by rfl) (by decide) (.slice ao 0 c) 0 [] (by rfl) OW.out na (cellsN la) (.slice xa na ca) (by rfl) (SA.out.kept KK.out) (by rw [cellsN_length, LA.out]) ONA.out (by unfold maxLen; omega) (by omega) B0.out ?_); intro ao2 cap2 w2 hown hk hat; refine hK _ _ ?_; clear hK))
          rw [Nat.zero_add, List.nil_append] at hown
          have O2 := Lib.hid hown
          have K2 := Lib.hid (KK.out.trans hk (fun _ _ f => f) (fun q h1 h2 => by have h3 := (own_lt OW.out h2).1; have h4 := HB0.out; omega) : Kept (fun _ => False) w w2)
          clear hown hk h0
          go_roundg 1
          case measure => omega
          case rel => exact ⟨K2.out, .inr (.inl ⟨rfl, by go_num, _, _, rfl, O2.out⟩)⟩
        · have KK := Lib.hid kk; have OW := Lib.hid own
          have h1 := kk.cell C1.out (fun f => f)
          have B0 := Lib.hid (show b0 ≤ wr.heap.size from by have h1 := HB0.out; have h2 := kk.size; omega)
          clear kk own
          go_wp2_with (at_builtin; (refine wpList_step (fun _ hK => step_appG (by rfl) _ _ 26 (by rfl) b0 39 i39 _ 9 112 Try.underlying26 hi39 z39 s39 b39 (by rfl) (by decide) (.slice x na c) na (cellsN la) (by rfl) OW.out nb (cellsN lb) (.slice xb nb cb) (by rfl) (SB.out.kept KK.out) (by rw [cellsN_length, LB.out]) ONB.out (by have := HT.out; unfold maxLen; omega) (by have := HT.out; omega) B0.out ?_); intro ao2 cap2 w2 hown hk hat; refine hK _ _ ?_; clear hK))
          rw [HT.out] at hown
          try rw [HT.out]
          have O2 := Lib.hid hown
          have K2 := Lib.hid (KK.out.trans hk (fun _ _ f => f) (fun q h1 h2 => by have h3 := (own_lt OW.out h2).1; have h4 := HB0.out; omega) : Kept (fun _ => False) w w2)
          clear hown hk h1
          go_roundg 0
          case measure => omega
          case rel => exact ⟨K2.out, .inr (.inr ⟨rfl, by go_num, _, _, rfl, O2.out⟩)⟩
        · have KK := Lib.hid kk; have OW := Lib.hid own
          clear kk own
          go_wp2
          go_ret
          refine ⟨_, rfl, ?_, fun x n c e => ?_, KK.out⟩
          rotate_left
          · rcases row_form OW.out with ⟨q1, q2⟩ | ⟨g', c', q1, hle, _⟩
            · have q := e.symm.trans q1; cases q; exact Nat.le_refl _
            · have q := e.symm.trans q1; cases q; exact hle
          have := grown_reads (S := S) (l := la ++ lb) (n := tot) (by rw [cellsN_append]; exact OW.out) (by rw [List.length_append, LA.out, LB.out]; exact HT.out) (fun x hx => by
            rcases List.mem_append.1 hx with h | h
            · exact (KA.out x h).kept KK.out
            · exact (KB.out x h).kept KK.out)
          rw [frN_app, EA.out, EB.out] at this
          rw [HB0.out]; exact this
end Go.Proofs.Ytjidldbolbjdpaa
