/- A part of the proof. -/
import Derived.Lib.AppendZeros
import Derived.Test.YtelhdbkkigehgaaGreatDoorZs7

/- The desk's numbers: what words say. -/
namespace Go.Proofs.YtelhdbkkigehgaaGreatDoor
open Go.RowKit

/-- Words, as they can be read. -/
def WordsR (w : World) (v : Value) (ws : List ByteArray) : Prop := ∃ ao cap, v = .slice ao ws.length cap ∧ (ws = [] ∨ ∃ g o, ao = some ⟨g, o, none⟩ ∧ ∀ j x, ws[j]? = some x → w.cell? ⟨g, o + j, none⟩ = some (.string x))
theorem WordsR.kept {w w' : World} {v : Value} {ws : List ByteArray} (h : WordsR w v ws) (hK : Kept (fun _ => False) w w') : WordsR w' v ws := by
  obtain ⟨ao, cap, hv, h⟩ := h
  refine ⟨ao, cap, hv, ?_⟩
  rcases h with h | ⟨g, o, ha, hc⟩
  · exact .inl h
  · exact .inr ⟨g, o, ha, fun j n hn => hK.cell (hc j n hn) (fun f => f)⟩
/-- Numbers are told; if they are said to be some, the words say them. -/
def NumsT (w : World) (b : Nat) (e : Ending) (ws : List ByteArray) : Prop := ∃ (v : Value) (ok : Bool), e = .returned (.tuple #[v, .bool ok]) ∧ (ok = true → ∃ ns, IntsR w b v ns ∧ SaysL ws ns)
theorem NumsT.no {w : World} {b : Nat} {ws : List ByteArray} (v : Value) : NumsT w b (.returned (.tuple #[v, .bool false])) ws := ⟨v, false, rfl, fun h => by cases h⟩
theorem SaysL.snoc : ∀ {ws : List ByteArray} {ns : List Int} {x : ByteArray} {n : Int}, SaysL ws ns → Says x n → SaysL (ws ++ [x]) (ns ++ [n])
  | [], [], _, _, _, h => ⟨h, trivial⟩
  | _ :: _, _ :: _, _, _, h, k => ⟨h.1, h.2.snoc k⟩
  | [], _ :: _, _, _, h, _ => h.elim
  | _ :: _, [], _, _, h, _ => h.elim
set_option maxHeartbeats 2000000 in
set_option maxRecDepth 100000 in
theorem numbers_all {w : World} {v : Value} {ws : List ByteArray} (R : WordsR w v ws) (hs : ∀ x ∈ ws, x.size ≤ 1000000000) (hn : ws.length ≤ 1000000000) (E : Vr w) :
    Calls Tryz.prog 14 #[v] w fun e w' => NumsT w' w.heap.size e ws ∧ Kept (fun _ => False) w w' := by
  obtain ⟨i3, hi3, z3, s3, b3⟩ := info_3
  obtain ⟨ao, cap, rfl, hr⟩ := R
  have RR := Lib.hid hr
  have HS := Lib.hid hs
  have EE := Lib.hid E
  obtain ⟨len, hlen⟩ : ∃ l, ws.length = l := ⟨_, rfl⟩
  have HL := Lib.hid hlen
  rw [hlen] at hn ⊢
  have HN := Lib.hid hn
  clear hr hs E hlen
  go_enter Tryz.func14, Tryz.ntmps14
  go_wp2_with fail
  go_loopg [4, 11] len (fun gh t4 t11 wr => ∃ (i : Nat) (dn : List Int), i + gh = len ∧ t11 = .int .i64 i ∧ SaysL (ws.take i) dn ∧ IntsR wr w.heap.size t4 dn ∧ Kept (fun _ => False) w wr)
  case atStart => exact ⟨0, [], by omega, rfl, trivial, World.ownsRow_nil _ _ _ _, Kept.refl _ _⟩
  case round =>
    obtain ⟨i, dn, hgh, rfl, hsl, hown, hk⟩ := hrel
    have SL := Lib.hid hsl
    have OW := Lib.hid hown
    have HK := Lib.hid hk
    cases gk with
    | zero =>
      have hi : i = len := by omega
      subst hi
      have F := Lib.hid (show SaysL ws dn from by have := hsl; rwa [← HL.out, List.take_length] at this)
      clear hgh hsl hown hk
      go_wp2_with fail
      go_ret2
      exact ⟨⟨_, true, rfl, fun _ => ⟨dn, OW.out, F.out⟩⟩, HK.out⟩
    | succ gk =>
      have hi : i < ws.length := by have := HL.out; omega
      have hne : ¬ ws = [] := fun e => by rw [e] at hi; simp at hi
      obtain ⟨x, hx⟩ : ∃ x, ws[i]? = some x := ⟨_, List.getElem?_eq_getElem hi⟩
      obtain ⟨g, o, rfl, hc⟩ := RR.out.resolve_left hne
      have c := hk.cell (hc i x hx) (fun f => f)
      have i1 : ((i : Nat) : Int) < (len : Int) := by have := HL.out; omega
      have i2 : (0 : Int) ≤ (i : Int) := by omega
      have i3' : wrap64 ((i : Int) + 1) = ((i + 1 : Nat) : Int) := by rw [wr_in _ (by omega)]; omega
      have HX := Lib.hid hx
      have C := Lib.hid (number_all (HS.out x (List.mem_of_getElem? hx)) (EE.out.kept hk (fun _ _ f => f)))
      have GH := Lib.hid hgh
      have SZ := Lib.hid hk.size
      have DL : dn.length ≤ 1000000000 := by
        have := hsl.length
        rw [List.length_take] at this
        omega
      obtain ⟨m, hm⟩ : ∃ m, dn.length = m := ⟨_, rfl⟩
      have HM := Lib.hid hm
      unfold IntsR at hown
      rw [hm] at hown DL
      have OM := Lib.hid hown
      clear hgh hsl hown hk hi hne hx hc OW hm
      go_wp2_with fail
      refine C.out.mono ?_
      rintro e w4 ⟨⟨n, ok, rfl, hok⟩, k4⟩
      have OK := Lib.hid hok
      have K4 := Lib.hid (HK.out.trans k4 (fun _ _ f => f) (fun _ _ f => f) : Kept (fun _ => False) w w4)
      have O4 := Lib.hid (ownr_kept OM.out k4 (fun _ _ f => f))
      have Z4 := Lib.hid k4.size
      clear k4 c hok
      cases ok with
      | false =>
        go_wp2_with fail
        go_ret2
        exact ⟨NumsT.no _, K4.out⟩
      | true =>
        go_wp2_with (at_builtin; refine wpList_append_own _ rfl _ _ 36 rfl w.heap.size 3 i3 _ 1 8 Tryz.underlying36 hi3 z3 s3 b3 rfl (by decide) _ m _ rfl (ownr_kept O4.out ((Kept.refl (fun _ => False) w4).alloc _) (fun _ _ f => f)) ⟨w4.heap.size, 0, none⟩ 1 1 [.int .i64 n] rfl rfl (World.news_of_block (heap_alloc_new w4 _)) ?qa ?qb ?qc ?qd ?_)
        case qa => intro u hu; simp at hu; subst hu; rfl
        case qb => unfold maxLen; omega
        case qc => omega
        case qd => have := SZ.out; have := Z4.out; simp; omega
        intro v' w5 hown hgrow hnil
        have K6 := Lib.hid (((K4.out.alloc (Obj.cells #[.int .i64 n] 3)) : Kept (fun _ => False) w _).grown hgrow (fun k hk hlt => by have := ownr_from O4.out hk; omega))
        have O6 := Lib.hid hown
        clear hown hgrow hnil
        go_wp2_with fail
        go_roundg gk
        case measure => omega
        case rel =>
          refine ⟨i + 1, dn ++ [n], by have := GH.out; omega, rfl, ?_, ?_, K6.out⟩
          · rw [List.take_add_one, HX.out]
            exact SL.out.snoc (OK.out trivial)
          · have := O6.out
            unfold IntsR
            rw [List.length_append, HM.out, List.map_append]
            exact this
end Go.Proofs.YtelhdbkkigehgaaGreatDoor

/- slices.Grow, slices.Concat over words: four and two. -/
namespace Go.Proofs.YtelhdbkkigehgaaGreatDoor
open Go.RowKit

theorem info_9 : ∃ i, Tryz.prog.info? 9 = some i ∧ i.zero = some (.string ⟨#[]⟩) ∧ i.size = 1 ∧ i.bytes = 16 := by
  have h : (Tryz.prog.info? 9).map (fun i => (i.zero, i.size, i.bytes)) = some (some (.string ⟨#[]⟩), 1, 16) := by kernel_rfl
  cases hi : Tryz.prog.info? 9 with
  | none => rw [hi] at h; simp at h
  | some i =>
    rw [hi] at h
    simp at h
    exact ⟨i, rfl, h.1, h.2.1, h.2.2⟩
set_option maxHeartbeats 4000000 in
set_option maxRecDepth 100000 in
theorem grow_6 (w : World) :
    Calls Tryz.prog 140 #[.slice none 0 0, .int .i64 6] w fun e w' => ∃ ao c, e = .returned (.slice ao 0 c) ∧ w'.ownsRow w.heap.size 9 1 (.slice ao 0 c) 0 [] ∧ Kept (fun _ => False) w w' := by
  obtain ⟨i9, hi9, z9, s9, b9⟩ := info_9
  have hr := Lib.run_append_nil_zeros (P := Tryz.prog) w 50 3 50 9 i9 _ .i64 .i64 Tryz.underlying50 Tryz.underlying3 hi9 z9 6 (by omega) (by rw [s9]; omega) (by omega) (by rw [b9]; omega)
  obtain ⟨cap, hcap⟩ : ∃ c, grownCap w 6 0 9 = c := ⟨_, rfl⟩
  have hc1 : 6 ≤ cap := by rw [← hcap]; exact grownCap_ge w 6 0 9
  have hc2 : cap ≤ maxLen := by rw [← hcap]; exact grownCap_le_maxLen w 6 0 9 (by unfold maxLen; omega)
  rw [hcap] at hr
  obtain ⟨W, hW⟩ : ∃ W, w.drew.alloc (.cells (Builtin.zeroCells (Value.string ⟨#[]⟩).cells 6 ++ Builtin.zeroCells (Value.string ⟨#[]⟩).cells (cap - 6)) 9) = W := ⟨_, rfl⟩
  have hO : W.ownsRow w.heap.size 9 1 (.slice (some ⟨w.heap.size, 0, none⟩) 0 cap) 0 [] := by
    refine ⟨rfl, .inr ⟨w.heap.size, cap, Builtin.zeroCells (Value.string ⟨#[]⟩).cells 6 ++ Builtin.zeroCells (Value.string ⟨#[]⟩).cells (cap - 6), rfl, Nat.le_refl _, ?_, Nat.zero_le _, hc2, ?_, by simp⟩⟩
    · rw [← hW]; exact heap_alloc_new w.drew _
    · rw [Array.size_append, size_zeroCells, size_zeroCells]
      have : (Value.string ⟨#[]⟩).cells.size = 1 := rfl
      rw [this, ← Nat.add_mul]; congr 1; omega
  have hK : Kept (fun _ => False) w W := by rw [← hW]; exact ((Kept.refl _ w).drew).alloc _
  rw [hW] at hr
  have OO := Lib.hid hO; have KK := Lib.hid hK
  have HR := Lib.hid (show ∀ ty, (Builtin.append_ #[50, 3] ty #[.slice none 0 0, .int .i64 6]).run Tryz.prog w = .ok (.slice (some ⟨w.heap.size, 0, none⟩) 6 cap) W from fun ty => hr)
  have hc0 : (0 : Int) ≤ (cap : Int) := by omega
  clear hr hO hK hW hcap
  go_enter Tryz.func140, Tryz.ntmps140
  go_wp2_with (at_builtin; refine Lib.wpList_append_run _ rfl _ _ _ _ rfl _ _ rfl rfl _ _ (HR.out _) ?_)
  go_ret
  exact ⟨_, _, rfl, OO.out, KK.out⟩
set_option maxHeartbeats 4000000 in
set_option maxRecDepth 100000 in
theorem concat_42 {w : World} {sb g o1 c1 o2 c2 : Nat} {xs ys : List ByteArray} (h0 : w.cell? ⟨sb, 0, none⟩ = some (.slice (some ⟨g, o1, none⟩) 4 c1)) (h1 : w.cell? ⟨sb, 1, none⟩ = some (.slice (some ⟨g, o2, none⟩) 2 c2)) (ha : ∀ j x, xs[j]? = some x → w.cell? ⟨g, o1 + j, none⟩ = some (.string x)) (hb : ∀ j x, ys[j]? = some x → w.cell? ⟨g, o2 + j, none⟩ = some (.string x)) (hx : xs.length = 4) (hy : ys.length = 2) :
    Calls Tryz.prog 79 #[.slice (some ⟨sb, 0, none⟩) 2 2] w fun e w' => ∃ v, e = .returned v ∧ w'.ownsRow w.heap.size 9 1 v 6 ((xs ++ ys).map Value.string) ∧ Kept (fun _ => False) w w' := by
  obtain ⟨i9, hi9, z9, s9, b9⟩ := info_9
  have C0 := Lib.hid h0; have C1 := Lib.hid h1; have HX := Lib.hid hx; have HY := Lib.hid hy; have HA := Lib.hid ha; have HB := Lib.hid hb
  have NX : ∀ W, Kept (fun _ => False) w W → ∀ j u, (xs.map Value.string)[j]? = some u → W.cell? ((⟨g, o1, none⟩ : Addr).add j) = some u := fun W K j u hu => by
    rw [List.getElem?_map] at hu
    cases hj : xs[j]? with
    | none => rw [hj] at hu; simp at hu
    | some x => rw [hj] at hu; simp at hu; subst hu; rw [add_mid]; exact K.cell (ha j x hj) (fun f => f)
  have NY : ∀ W, Kept (fun _ => False) w W → ∀ j u, (ys.map Value.string)[j]? = some u → W.cell? ((⟨g, o2, none⟩ : Addr).add j) = some u := fun W K j u hu => by
    rw [List.getElem?_map] at hu
    cases hj : ys[j]? with
    | none => rw [hj] at hu; simp at hu
    | some x => rw [hj] at hu; simp at hu; subst hu; rw [add_mid]; exact K.cell (hb j x hj) (fun f => f)
  have NX := Lib.hid NX; have NY := Lib.hid NY
  have OX := Lib.hid (show ∀ u ∈ xs.map Value.string, u.oneCell' = true from fun u hu => by obtain ⟨x, _, rfl⟩ := List.mem_map.1 hu; rfl)
  have OY := Lib.hid (show ∀ u ∈ ys.map Value.string, u.oneCell' = true from fun u hu => by obtain ⟨x, _, rfl⟩ := List.mem_map.1 hu; rfl)
  clear ha hb hx hy
  go_enter Tryz.func79, Tryz.ntmps79
  go_wp2_with fail
  go_loopg [3, 11] 2 (fun ghv s3 s11 wr => w = wr ∧ ((ghv = 2 ∧ s11 = .int .i64 0 ∧ s3 = .int .i64 0) ∨ (ghv = 1 ∧ s11 = .int .i64 1 ∧ s3 = .int .i64 4) ∨ (ghv = 0 ∧ s11 = .int .i64 2 ∧ s3 = .int .i64 6)))
  case atStart => exact ⟨rfl, .inl ⟨rfl, rfl, rfl⟩⟩
  case round =>
    obtain ⟨rfl, ⟨rfl, rfl, rfl⟩ | ⟨rfl, rfl, rfl⟩ | ⟨rfl, rfl, rfl⟩⟩ := hrel
    · go_wp2_with fail
      go_roundg 1
      case measure => omega
      case rel => exact ⟨rfl, .inr (.inl ⟨rfl, rfl, rfl⟩)⟩
    · go_wp2_with fail
      go_roundg 0
      case measure => omega
      case rel => exact ⟨rfl, .inr (.inr ⟨rfl, rfl, rfl⟩)⟩
    · go_wp2_with fail
      refine (grow_6 w).mono ?_
      rintro e w1 ⟨ao, c, rfl, own1, k1⟩
      obtain ⟨b0, hb0⟩ : ∃ n, w.heap.size = n := ⟨_, rfl⟩
      rw [hb0] at own1
      have HB0 := Lib.hid hb0; have O1 := Lib.hid own1; have K1 := Lib.hid k1
      clear hb0 own1 k1 h0 h1
      go_wp2_with fail
      go_loopg [6, 27] 2 (fun ghv s6 s27 wr => Kept (fun _ => False) w wr ∧ ((ghv = 2 ∧ s27 = .int .i64 0 ∧ s6 = .slice ao 0 c ∧ wr.ownsRow b0 9 1 (.slice ao 0 c) 0 []) ∨ (ghv = 1 ∧ s27 = .int .i64 1 ∧ wr.ownsRow b0 9 1 s6 4 (xs.map Value.string)) ∨ (ghv = 0 ∧ s27 = .int .i64 2 ∧ wr.ownsRow b0 9 1 s6 6 (xs.map Value.string ++ ys.map Value.string))))
      case atStart => exact ⟨K1.out, .inl ⟨rfl, rfl, rfl, O1.out⟩⟩
      case round =>
        obtain ⟨kk, ⟨rfl, rfl, rfl, own⟩ | ⟨rfl, rfl, own⟩ | ⟨rfl, rfl, own⟩⟩ := hrel
        · have KK := Lib.hid kk; have OW := Lib.hid own
          have h0 := kk.cell C0.out (fun f => f)
          have B0 := Lib.hid (show b0 ≤ wr.heap.size from by have h1 := HB0.out; have h2 := kk.size; omega)
          clear kk own
          go_wp2_with (at_builtin; refine wpList_append_own _ rfl _ _ 50 rfl b0 9 i9 _ 1 16 Tryz.underlying50 hi9 z9 s9 b9 rfl (by decide) _ 0 _ rfl OW.out ⟨g, o1, none⟩ 4 c1 (xs.map Value.string) rfl (by rw [List.length_map, HX.out]) (NX.out _ KK.out) OX.out ?qb ?qc B0.out ?_)
          case qb => unfold maxLen; omega
          case qc => omega
          intro v' w5 hown hgrow hnil
          have K6 := Lib.hid (KK.out.grown hgrow (fun k hk hlt => by have := ownr_from OW.out hk; have := HB0.out; omega))
          have O6 := Lib.hid hown
          clear hown hgrow hnil h0
          go_wp2_with fail
          go_roundg 1
          case measure => omega
          case rel => exact ⟨K6.out, .inr (.inl ⟨rfl, rfl, by have := O6.out; simpa using this⟩)⟩
        · have KK := Lib.hid kk; have OW := Lib.hid own
          have h1 := kk.cell C1.out (fun f => f)
          have B0 := Lib.hid (show b0 ≤ wr.heap.size from by have h1 := HB0.out; have h2 := kk.size; omega)
          clear kk own
          go_wp2_with (at_builtin; refine wpList_append_own _ rfl _ _ 50 rfl b0 9 i9 _ 1 16 Tryz.underlying50 hi9 z9 s9 b9 rfl (by decide) _ 4 _ rfl OW.out ⟨g, o2, none⟩ 2 c2 (ys.map Value.string) rfl (by rw [List.length_map, HY.out]) (NY.out _ KK.out) OY.out ?qb ?qc B0.out ?_)
          case qb => unfold maxLen; omega
          case qc => omega
          intro v' w5 hown hgrow hnil
          have K6 := Lib.hid (KK.out.grown hgrow (fun k hk hlt => by have := ownr_from OW.out hk; have := HB0.out; omega))
          have O6 := Lib.hid hown
          clear hown hgrow hnil h1
          go_wp2_with fail
          go_roundg 0
          case measure => omega
          case rel => exact ⟨K6.out, .inr (.inr ⟨rfl, rfl, O6.out⟩)⟩
        · have KK := Lib.hid kk; have OW := Lib.hid own
          clear kk own
          go_wp2_with fail
          go_ret
          refine ⟨_, rfl, ?_, KK.out⟩
          rw [HB0.out, List.map_append]; exact OW.out
end Go.Proofs.YtelhdbkkigehgaaGreatDoor

