/- slices.Clone, slices.CompactFunc over spans. -/
import Derived.Test.YtjidldbolbjdpaaStable
import Derived.Lib.Walk
import Derived.Lib.SliceRun
import Derived.Deep.MidRow
namespace Go.Proofs.Ytjidldbolbjdpaa
open Go.RowKit

def zeroS : Spn := ⟨0, 0, 0, ⟨#[]⟩, ⟨#[]⟩, 0, 0, ⟨#[]⟩⟩
theorem inf24 : (Try.prog.info? 24).map (fun i => (i.zero, i.size, i.bytes)) = some (some (.agg zeroS.cells.toArray), 8, 88) := by kernel_rfl

set_option maxHeartbeats 2000000 in
theorem clone_any (w : World) (v : Value) (R : List Spn) (h : ReadsS w v R) (hl : R.length ≤ 1000) (hne : 0 < R.length) :
    Calls Try.prog 40 #[v] w fun e w' => ∃ v', e = .returned v' ∧ w'.ownsRow w.heap.size 24 8 v' R.length (cellsS R) ∧ Kept (fun _ => False) w w' := by
  obtain ⟨i0, hi, hz0, hz1, hz2⟩ := info_parts inf24
  obtain ⟨ao, cap, rfl, h⟩ := h
  rcases h with h0 | ⟨g, o, rfl, hc⟩
  · rw [h0] at hne; simp at hne
  have q25 : ∀ (w : World) (a : Option Addr) (n c n' c' : Nat), (binOp .eql 22 (.slice a n c) (.slice none n' c')).run Try.prog w = .ok (.bool a.isNone) w := fun w a n c n' c' => Lib.run_eql_slice_nil w _ _ a n c n' c' Try.underlying22
  have HC := Lib.hid hc; clear hc
  go_enter Try.func40, Try.ntmps40
  go_wp2_with (at_builtin; refine wpList_append_own _ rfl _ _ 22 rfl w.heap.size 24 i0 _ 8 88 Try.underlying22 hi hz0 hz1 hz2 rfl (by decide) _ _ _ rfl (World.ownsRow_made w #[] 0 (Nat.le_refl _) (Nat.zero_le _) rfl) ⟨g, o, none⟩ R.length cap (cellsS R) rfl ?qc1 ?qc2 ?qc3 ?qc4 ?qc5 ?qc6 ?_)
  case qc1 => exact cellsS_length R
  case qc2 =>
    intro j u hj
    rw [add_mid]
    have := HC.out j u hj
    exact (Below.cell ((Below.refl _ w).alloc (Nat.le_refl _) _) (World.block_lt_of_cell? _ _ this)).trans this
  case qc3 => exact cellsS_one R
  case qc4 => unfold maxLen; omega
  case qc5 => omega
  case qc6 => simp
  intro v' w1 hown hgrow hnil
  have HO := Lib.hid hown; have HG := Lib.hid hgrow; clear hown hgrow hnil
  go_wp2
  go_ret
  refine ⟨v', rfl, by simpa using HO.out, ((Kept.refl (fun _ => False) w).alloc _).grown HG.out (fun k hk hlt => ?_)⟩
  simp [Value.ownBlock] at hk; omega

/-- Of each run of one ID the first, among the first j. -/
def ddF (L : List Spn) : Nat → List Spn
  | 0 => []
  | j + 1 => if j = 0 ∨ (nth L j).id ≠ (nth L (j - 1)).id then ddF L j ++ [nth L j] else ddF L j
theorem ddF_le (L : List Spn) : ∀ j, (ddF L j).length ≤ j
  | 0 => Nat.le_refl _
  | j + 1 => by
    have := ddF_le L j
    unfold ddF; split
    · simp; omega
    · omega
theorem ddF_keep {L : List Spn} {j : Nat} (h : j = 0 ∨ (nth L j).id ≠ (nth L (j - 1)).id) : ddF L (j + 1) = ddF L j ++ [nth L j] := by rw [ddF, if_pos h]
theorem ddF_skip {L : List Spn} {j : Nat} (h0 : j ≠ 0) (h : (nth L j).id = (nth L (j - 1)).id) : ddF L (j + 1) = ddF L j := by rw [ddF, if_neg (by simp [h0, h])]
theorem take_snoc {L : List Spn} {i : Nat} (h : i < L.length) : L.take (i + 1) = L.take i ++ [nth L i] := by
  rw [List.take_add_one, nth_get h]; rfl
theorem take_set_snoc {L : List Spn} {i : Nat} (x : Spn) (h : i < L.length) : (L.set i x).take (i + 1) = L.take i ++ [x] := by
  rw [take_snoc (by simpa using h), List.take_set_of_le (Nat.le_refl _), nth_set _ _ _ _ h, if_pos rfl]

theorem wpList_store_letter {P : Program} {ops : Array Oper} {rest : List Oper} {op : Oper} {a : Act} {w : World} {Q : Exit → Act → World → Prop} (hgd : op.guard = none) (ty : TypeId) (x y : Operand) (ho : op.op = .store ty x y)
    (b o : Nat) (cells : Array Value) (hx : a.eval x = .pointer (some ⟨b, o, none⟩)) (hy : a.eval y = .agg cells)
    (ht : w.there b o cells.size) (hi : (P.info? ty).map (·.size) = some cells.size) (h1 : cells.all (·.oneCell') = true)
    (h : ∀ W, W = w.setCells b o cells.toList → wpList P ops Q rest (a.put op.dst undef) W) : wpList P ops Q (op :: rest) a w :=
  wpList_store_mid hgd ty x y ho b o cells hx hy ht hi h1 (h _ rfl)
theorem eq_call (x y : Spn) (bk : Nat) (w : World) (h : w.cell? ⟨bk, 0, none⟩ = some (.func (.func 33) #[] #[])) :
    Calls Try.prog 45 #[.agg x.cells.toArray, .agg y.cells.toArray, .pointer (some ⟨bk, 0, none⟩)] w fun e w' => e = .returned (.bool (x.id == y.id)) ∧ Kept (fun _ => False) w w' := eq_any x y bk w h
theorem zeroV24 (w : World) : (zeroValue 24).run Try.prog w = .ok (.agg zeroS.cells.toArray) w := by
  obtain ⟨i0, hi, hz0, hz1, hz2⟩ := info_parts inf24
  have h : Try.t24.zero = some (.agg zeroS.cells.toArray) := by kernel_rfl
  simp only [zeroValue]
  simp [h]
theorem clear_spans (w : World) {base g n cap : Nat} {L : List Spn} (k : Nat) (ho : w.ownsRow base 24 8 (.slice (some ⟨g, 0, none⟩) n cap) n (cellsS L)) (hl : L.length = n) (hk : k < n) :
    ∃ vs : List Value, ∀ (ty : TypeId) (c : Nat), (Builtin.clear_ #[22] ty #[.slice (some ⟨g, k * 8, none⟩) (n - k) c]).run Try.prog w = .ok (.tuple #[]) (w.setCells g (k * 8) vs) := by
  refine ⟨(Builtin.zeroCells zeroS.cells.toArray (n - k)).toList, fun ty c => ?_⟩
  have hlen : (Builtin.zeroCells zeroS.cells.toArray (n - k)).toList.length = (n - k) * 8 := by simp [Builtin.zeroCells, Spn.cells]
  have hst := run_storeCells_cells (P := Try.prog) g (k * 8) (Builtin.zeroCells zeroS.cells.toArray (n - k)).toList 0 w
    (fun j hj => by
      rw [hlen] at hj
      have hi : k * 8 + j < (cellsS L).length := by rw [cellsS_length]; omega
      have := ho.cells (g := g) rfl _ _ (List.getElem?_eq_getElem hi)
      rw [add_mid, Nat.zero_add] at this
      rw [Nat.add_zero, this]; rfl)
    (fun j hj => by rw [Nat.add_zero]; exact ho.frozenAt _)
    (fun v hv => by
      simp [Builtin.zeroCells] at hv
      obtain ⟨i, hi, rfl⟩ := hv
      have h8 : i % zeroS.cells.length < 8 := by
        have : zeroS.cells.length = 8 := rfl
        rw [this]; omega
      generalize i % zeroS.cells.length = r at h8
      have : r = 0 ∨ r = 1 ∨ r = 2 ∨ r = 3 ∨ r = 4 ∨ r = 5 ∨ r = 6 ∨ r = 7 := by omega
      rcases this with rfl | rfl | rfl | rfl | rfl | rfl | rfl | rfl <;> rfl)
  rw [Nat.add_zero] at hst
  obtain ⟨m, hm⟩ : ∃ m, n - k = m + 1 := ⟨n - k - 1, by omega⟩
  rw [hm] at hst ⊢
  have hz := zeroV24
  generalize zeroS.cells.toArray = zs at hst hz ⊢
  simp [Builtin.clear_, run_underlying Try.underlying22, hz, hst, Value.cells]
theorem setL_low : ∀ (vs : List Value) (xs : List Value) (f j : Nat), j < f → (setL xs f vs)[j]? = xs[j]?
  | [], _, _, _, _ => rfl
  | v :: r, xs, f, j, h => by rw [setL, setL_low r _ _ _ (by omega), List.getElem?_set_ne (by omega)]
theorem own_reads {w : World} {base g n cap : Nat} {xs : List Value} {R : List Spn} (ho : w.ownsRow base 24 8 (.slice (some ⟨g, 0, none⟩) n cap) n xs) (h : ∀ j, j < R.length * 8 → xs[j]? = (cellsS R)[j]?) (c : Nat) : ReadsS w (.slice (some ⟨g, 0, none⟩) R.length c) R := by
  refine ⟨_, c, rfl, .inr ⟨g, 0, rfl, fun j u hu => ?_⟩⟩
  have hj : j < R.length * 8 := by have := (List.getElem?_eq_some_iff.1 hu).1; rwa [cellsS_length] at this
  have := ho.cells (g := g) rfl j u ((h j hj).trans hu)
  rwa [add_mid] at this
theorem cells_take {L : List Spn} {k j : Nat} (hj : j < (L.take k).length * 8) : (cellsS L)[j]? = (cellsS (L.take k))[j]? := by
  have h : cellsS L = cellsS (L.take k) ++ cellsS (L.drop k) := by rw [← cellsS_append, List.take_append_drop]
  rw [h, List.getElem?_append_left (by rw [cellsS_length]; exact hj)]

set_option maxHeartbeats 16000000 in
set_option maxRecDepth 100000 in
theorem compact_any {w : World} {base g n cap bk : Nat} {L : List Spn} (ho : w.ownsRow base 24 8 (.slice (some ⟨g, 0, none⟩) n cap) n (cellsS L)) (hl : L.length = n) (hn : n ≤ 1000) (hcap : n ≤ cap) (hk : w.cell? ⟨bk, 0, none⟩ = some (.func (.func 33) #[] #[])) (hne : bk ≠ g) :
    Calls Try.prog 44 #[.slice (some ⟨g, 0, none⟩) n cap, .func (.func 45) #[] #[.pointer (some ⟨bk, 0, none⟩)]] w fun e w' => ∃ c, e = .returned (.slice (some ⟨g, 0, none⟩) (ddF L n).length c) ∧ ReadsS w' (.slice (some ⟨g, 0, none⟩) (ddF L n).length c) (ddF L n) ∧ Kept (fun k => k = g) w w' := by
  have HO0 := Lib.hid ho; have HK0 := Lib.hid hk
  clear ho hk
  by_cases h2 : n < 2
  · have e1 : (n : Int) < 2 := by omega
    have hdd : ddF L n = L := by
      rcases (show n = 0 ∨ n = 1 by omega) with rfl | rfl
      · rw [List.length_eq_zero_iff.1 hl]; rfl
      · obtain ⟨x, rfl⟩ := List.length_eq_one_iff.1 hl
        rfl
    have DD := Lib.hid hdd
    clear hdd
    go_enter Try.func44, Try.ntmps44
    go_wp2
    go_ret
    rw [DD.out, hl]
    have h := own_reads (R := L) HO0.out (fun j hj => rfl) cap
    rw [hl] at h
    exact ⟨cap, rfl, h, Kept.refl _ _⟩
  have e1 : ¬ (n : Int) < 2 := by omega
  go_enter Try.func44, Try.ntmps44
  go_wp2
  go_loopg [5, 6, 7] (n - 1) (fun gh s _ _ wr => ∃ (i : Nat), i + gh = n ∧ 1 ≤ i ∧ s = .int .i64 i ∧ ddF L i = L.take i ∧ Kept (fun _ => False) w wr)
  case atStart => exact ⟨1, by omega, Nat.le_refl _, by go_num, by rw [ddF_keep (.inl rfl), take_snoc (by omega)]; rfl, Kept.refl _ _⟩
  case round =>
    obtain ⟨i, hg, hi1, rfl, hdd, kw⟩ := hrel
    have HG := Lib.hid hg; have DD := Lib.hid hdd; have KW := Lib.hid kw
    have hin : i ≤ n := by omega
    clear hg hdd kw
    have HO1 := Lib.hid (own_keptS HO0.out KW.out (fun _ _ f => f))
    have hb0 := KW.out.cell HK0.out (fun f => f)
    by_cases hlt : i < n
    · have e2 : (i : Int) < (n : Int) := by omega
      obtain ⟨q, hq⟩ : ∃ q, i - 1 = q := ⟨_, rfl⟩
      have e3 : IntKind.i64.wrap ((i : Int) - 1) = (q : Int) := by rw [show (i : Int) - 1 = (q : Int) by omega]; exact IntWalk.i64_in _ (by omega)
      obtain ⟨x, hx⟩ : ∃ x, nth L i = x := ⟨_, rfl⟩
      obtain ⟨y, hy⟩ : ∃ y, nth L q = y := ⟨_, rfl⟩
      have gx := nth_get (l := L) (k := i) (by omega)
      have gy := nth_get (l := L) (k := q) (by omega)
      rw [hx] at gx; rw [hy] at gy
      have rx := own_range HO1.out gx
      have ry := own_range HO1.out gy
      have HX := Lib.hid hx; have HY := Lib.hid hy; have HQ := Lib.hid hq
      have i1 : (0 : Int) ≤ (i : Int) := by omega
      have i2 : (i : Int) < (n : Int) := by omega
      have i3 : (0 : Int) ≤ (q : Int) := by omega
      have i4 : (q : Int) < (n : Int) := by omega
      clear hx hy gx gy hq
      by_cases hd : x.id = y.id
      · have hbe : (x.id == y.id) = true := by simp [hd]
        have hde : ddF L (i + 1) = L.take i := by rw [ddF_skip (by omega) (by rw [HQ.out, HX.out, HY.out]; exact hd)]; exact DD.out
        have DE := Lib.hid hde
        have i5 : (i : Int) ≤ (n : Int) := by omega
        have i6 : (i : Int) ≤ (cap : Int) := by omega
        have hle2 : i ≤ n := by omega
        have hle3 : i ≤ cap := by omega
        clear hd hde
        go_wp2
        refine wp_region_held_drew (S := (fun w' => w'.cell? ⟨bk, 0, none⟩ = some (.func (.func 33) #[] #[]) ∧ w'.rangeAt g (i * 8) x.cells ∧ w'.rangeAt g (q * 8) y.cells)) (by kernel_rfl) ?_ (fun hHeld => ?_)
        · exact ⟨hb0, rx, ry⟩
        refine wpAnyH_take (i := 0) (v := ?_) opAt0 (by kernel_rfl) (by kernel_rfl) (by kernel_rfl) (fun _ _ _ h => h) (Or.inl ⟨by rfl, ?_⟩) hHeld ?_
        case refine_2 => (intro w hSw; (try dsimp only at hSw); go_simp; all_goals (with_reducible rfl))
        (try simp only [Act.put]); (try simp only [List.setIfInBounds_toArray]); (try simp only [List.set_cons_succ]); (try simp only [List.set_cons_zero])
        refine wpAnyH_take (i := 1) (v := ?_) opAt1 (by kernel_rfl) (by kernel_rfl) (by kernel_rfl) (fun _ _ _ h => h) (Or.inl ⟨by rfl, ?_⟩) hHeld ?_
        case refine_2 => (intro w hSw; (try dsimp only at hSw); go_simp; all_goals (with_reducible rfl))
        (try simp only [Act.put]); (try simp only [List.setIfInBounds_toArray]); (try simp only [List.set_cons_succ]); (try simp only [List.set_cons_zero])
        refine wpAnyH_take (i := 2) (v := ?_) opAt2 (by kernel_rfl) (by kernel_rfl) (by kernel_rfl) (fun _ _ _ h => h) (Or.inl ⟨by rfl, ?_⟩) hHeld ?_
        case refine_2 => (intro w hSw; (try dsimp only at hSw); go_simp; all_goals (with_reducible rfl))
        (try simp only [Act.put]); (try simp only [List.setIfInBounds_toArray]); (try simp only [List.set_cons_succ]); (try simp only [List.set_cons_zero])
        refine wpAnyH_take (i := 3) (v := ?_) opAt3 (by kernel_rfl) (by kernel_rfl) (by kernel_rfl) (fun _ _ _ h => h) (Or.inl ⟨by rfl, ?_⟩) hHeld ?_
        case refine_2 => (intro w hSw; (try dsimp only at hSw); go_simp; all_goals (with_reducible rfl))
        (try simp only [Act.put]); (try simp only [List.setIfInBounds_toArray]); (try simp only [List.set_cons_succ]); (try simp only [List.set_cons_zero])
        refine wpAnyH_take (i := 4) (v := .agg x.cells.toArray) opAt4 (by kernel_rfl) (by kernel_rfl) (by kernel_rfl) (fun _ _ _ h => h) (yieldsIf_load_mid (by rfl) 24 _ (by rfl) g (i * 8) (by rfl) x.cells _ (fun w hS => hS.2.1) Try.underlying24 rfl info24) hHeld ?_
        (try simp only [Act.put]); (try simp only [List.setIfInBounds_toArray]); (try simp only [List.set_cons_succ]); (try simp only [List.set_cons_zero])
        refine wpAnyH_take (i := 5) (v := ?_) opAt5 (by kernel_rfl) (by kernel_rfl) (by kernel_rfl) (fun _ _ _ h => h) (Or.inl ⟨by rfl, ?_⟩) hHeld ?_
        case refine_2 => (intro w hSw; (try dsimp only at hSw); go_simp; all_goals (with_reducible rfl))
        (try simp only [Act.put]); (try simp only [List.setIfInBounds_toArray]); (try simp only [List.set_cons_succ]); (try simp only [List.set_cons_zero])
        refine wpAnyH_take (i := 6) (v := ?_) opAt6 (by kernel_rfl) (by kernel_rfl) (by kernel_rfl) (fun _ _ _ h => h) (Or.inl ⟨by rfl, ?_⟩) hHeld ?_
        case refine_2 => (intro w hSw; (try dsimp only at hSw); go_simp; all_goals (with_reducible rfl))
        (try simp only [Act.put]); (try simp only [List.setIfInBounds_toArray]); (try simp only [List.set_cons_succ]); (try simp only [List.set_cons_zero])
        refine wpAnyH_take (i := 7) (v := ?_) opAt7 (by kernel_rfl) (by kernel_rfl) (by kernel_rfl) (fun _ _ _ h => h) (Or.inl ⟨by rfl, ?_⟩) hHeld ?_
        case refine_2 => (intro w hSw; (try dsimp only at hSw); go_simp; all_goals (with_reducible rfl))
        (try simp only [Act.put]); (try simp only [List.setIfInBounds_toArray]); (try simp only [List.set_cons_succ]); (try simp only [List.set_cons_zero])
        refine wpAnyH_take (i := 8) (v := ?_) opAt8 (by kernel_rfl) (by kernel_rfl) (by kernel_rfl) (fun _ _ _ h => h) (Or.inl ⟨by rfl, ?_⟩) hHeld ?_
        case refine_2 => (intro w hSw; (try dsimp only at hSw); go_simp; all_goals (with_reducible rfl))
        (try simp only [Act.put]); (try simp only [List.setIfInBounds_toArray]); (try simp only [List.set_cons_succ]); (try simp only [List.set_cons_zero])
        refine wpAnyH_take (i := 9) (v := .agg y.cells.toArray) opAt9 (by kernel_rfl) (by kernel_rfl) (by kernel_rfl) (fun _ _ _ h => h) (yieldsIf_load_mid (by rfl) 24 _ (by rfl) g (q * 8) (by rfl) y.cells _ (fun w hS => hS.2.2) Try.underlying24 rfl info24) hHeld ?_
        (try simp only [Act.put]); (try simp only [List.setIfInBounds_toArray]); (try simp only [List.set_cons_succ]); (try simp only [List.set_cons_zero])
        refine wpAnyH_ready (rs := [10]) (by kernel_rfl) (by simp) ?_
        refine AllReadyH.cons opAt10 (fun K hK => ?_) AllReadyH.nil
        go_simp
        go_at_call 45; refine (eq_call x y bk _ hHeld.1).mono ?_; rintro e w5 ⟨rfl, k5⟩; have K5 := Lib.hid k5; dsimp only
        refine hK.out _ _ ?_ (fun hHeld => ?_)
        · exact ⟨k5.cell hHeld.1 (fun f => f), fun k v hv => k5.cell (hHeld.2.1 k v hv) (fun f => f), fun k v hv => k5.cell (hHeld.2.2 k v hv) (fun f => f)⟩
        clear hK K
        (try simp only [Act.put]); (try simp only [List.setIfInBounds_toArray]); (try simp only [List.set_cons_succ]); (try simp only [List.set_cons_zero])
        refine wpAnyH_done (by kernel_rfl) ?_ _
        rw [hbe]
        have KW6 := Lib.hid (keptFF (KW.out.drew) K5.out)
        go_wp2
        obtain ⟨d, hd⟩ : ∃ d, n - i = d := ⟨_, rfl⟩
        obtain ⟨cd, hcd⟩ : ∃ d, cap - i = d := ⟨_, rfl⟩
        have HD := Lib.hid hd
        have hdn : d ≤ n := by omega
        rw [hd, hcd]
        clear hd hcd hb0 rx ry
        go_loopg [5, 7] (n - i) (fun gh s t wr => ∃ (k k2 : Nat) (L1 : List Spn), i + k2 + gh = n + 1 ∧ 1 ≤ k2 ∧ k < i + k2 ∧ k2 ≤ d ∧ s = .int .i64 k ∧ t = .int .i64 k2 ∧ L1.length = n ∧ wr.ownsRow base 24 8 (.slice (some ⟨g, 0, none⟩) n cap) n (cellsS L1) ∧ (∀ t, k ≤ t → nth L1 t = nth L t) ∧ L1.take k = ddF L (i + k2) ∧ Kept (fun k => k = g) w wr)
        case atStart => exact ⟨i, 1, L, by omega, Nat.le_refl _, by omega, by have := HD.out; omega, rfl, by go_num, hl, own_keptS HO0.out KW6.out (fun _ _ f => f), fun _ _ => rfl, DE.out.symm, KW6.out.mono (fun _ _ f => f.elim)⟩
        case round =>
          obtain ⟨k, k2, L1, hg, hk2, hkk, hk2d, rfl, rfl, hl1, ho1, hhi, htk, k1⟩ := hrel
          have HG2 := Lib.hid hg; have HO2 := Lib.hid ho1; have HI := Lib.hid hhi; have TK := Lib.hid htk; have K1 := Lib.hid k1
          have hb0 := k1.cell HK0.out hne
          have KK := Lib.hid hkk
          have hk2n : k2 ≤ n := by omega
          have hkn : k ≤ n := by have := HD.out; omega
          clear hg ho1 hhi htk k1 hkk
          by_cases hlt2 : k2 < d
          · have f2 : (k2 : Int) < (d : Int) := by omega
            obtain ⟨q2, hq⟩ : ∃ q, k2 - 1 = q := ⟨_, rfl⟩
            have f3 : IntKind.i64.wrap ((k2 : Int) - 1) = (q2 : Int) := by rw [show (k2 : Int) - 1 = (q2 : Int) by omega]; exact IntWalk.i64_in _ (by omega)
            obtain ⟨u, hu⟩ : ∃ x, nth L (i + k2) = x := ⟨_, rfl⟩
            obtain ⟨z, hz⟩ : ∃ y, nth L (i + q2) = y := ⟨_, rfl⟩
            have gx := nth_get (l := L1) (k := i + k2) (by have := HD.out; omega)
            have gy := nth_get (l := L1) (k := i + q2) (by have := HD.out; omega)
            rw [HI.out _ (by have := KK.out; omega), hu] at gx; rw [HI.out _ (by have := KK.out; omega), hz] at gy
            have rx := own_range HO2.out gx
            have ry := own_range HO2.out gy
            have GX := Lib.hid gx
            rw [Nat.add_mul] at rx ry
            have HU := Lib.hid hu; have HZ := Lib.hid hz; have HQ2 := Lib.hid hq
            have f4 : (0 : Int) ≤ (k2 : Int) := by omega
            have f6 : (0 : Int) ≤ (q2 : Int) := by omega
            have f7 : (q2 : Int) < (d : Int) := by omega
            clear hu hz gx gy hq
            by_cases hd2 : u.id = z.id
            · have hbe : (u.id == z.id) = true := by simp [hd2]
              have hde : ddF L (i + k2 + 1) = ddF L (i + k2) := ddF_skip (by omega) (by rw [show i + k2 - 1 = i + q2 by have := HQ2.out; omega, HU.out, HZ.out]; exact hd2)
              have DE2 := Lib.hid hde
              clear hd2 hde
              go_wp2
              refine wp_region_held_drew (S := (fun w' => w'.cell? ⟨bk, 0, none⟩ = some (.func (.func 33) #[] #[]) ∧ w'.rangeAt g (i * 8 + k2 * 8) u.cells ∧ w'.rangeAt g (i * 8 + q2 * 8) z.cells)) (by kernel_rfl) ?_ (fun hHeld => ?_)
              · exact ⟨hb0, rx, ry⟩
              refine wpAnyH_take (i := 0) (v := ?_) opAt0 (by kernel_rfl) (by kernel_rfl) (by kernel_rfl) (fun _ _ _ h => h) (Or.inl ⟨by rfl, ?_⟩) hHeld ?_
              case refine_2 => (intro w hSw; (try dsimp only at hSw); go_simp; all_goals (with_reducible rfl))
              (try simp only [Act.put]); (try simp only [List.setIfInBounds_toArray]); (try simp only [List.set_cons_succ]); (try simp only [List.set_cons_zero])
              refine wpAnyH_take (i := 1) (v := ?_) opAt1 (by kernel_rfl) (by kernel_rfl) (by kernel_rfl) (fun _ _ _ h => h) (Or.inl ⟨by rfl, ?_⟩) hHeld ?_
              case refine_2 => (intro w hSw; (try dsimp only at hSw); go_simp; all_goals (with_reducible rfl))
              (try simp only [Act.put]); (try simp only [List.setIfInBounds_toArray]); (try simp only [List.set_cons_succ]); (try simp only [List.set_cons_zero])
              refine wpAnyH_take (i := 2) (v := ?_) opAt2 (by kernel_rfl) (by kernel_rfl) (by kernel_rfl) (fun _ _ _ h => h) (Or.inl ⟨by rfl, ?_⟩) hHeld ?_
              case refine_2 => (intro w hSw; (try dsimp only at hSw); go_simp; all_goals (with_reducible rfl))
              (try simp only [Act.put]); (try simp only [List.setIfInBounds_toArray]); (try simp only [List.set_cons_succ]); (try simp only [List.set_cons_zero])
              refine wpAnyH_take (i := 3) (v := ?_) opAt3 (by kernel_rfl) (by kernel_rfl) (by kernel_rfl) (fun _ _ _ h => h) (Or.inl ⟨by rfl, ?_⟩) hHeld ?_
              case refine_2 => (intro w hSw; (try dsimp only at hSw); go_simp; all_goals (with_reducible rfl))
              (try simp only [Act.put]); (try simp only [List.setIfInBounds_toArray]); (try simp only [List.set_cons_succ]); (try simp only [List.set_cons_zero])
              refine wpAnyH_take (i := 4) (v := .agg u.cells.toArray) opAt4 (by kernel_rfl) (by kernel_rfl) (by kernel_rfl) (fun _ _ _ h => h) (yieldsIf_load_mid (by rfl) 24 _ (by rfl) g (i * 8 + k2 * 8) (by rfl) u.cells _ (fun w hS => hS.2.1) Try.underlying24 rfl info24) hHeld ?_
              (try simp only [Act.put]); (try simp only [List.setIfInBounds_toArray]); (try simp only [List.set_cons_succ]); (try simp only [List.set_cons_zero])
              refine wpAnyH_take (i := 5) (v := ?_) opAt5 (by kernel_rfl) (by kernel_rfl) (by kernel_rfl) (fun _ _ _ h => h) (Or.inl ⟨by rfl, ?_⟩) hHeld ?_
              case refine_2 => (intro w hSw; (try dsimp only at hSw); go_simp; all_goals (with_reducible rfl))
              (try simp only [Act.put]); (try simp only [List.setIfInBounds_toArray]); (try simp only [List.set_cons_succ]); (try simp only [List.set_cons_zero])
              refine wpAnyH_take (i := 6) (v := ?_) opAt6 (by kernel_rfl) (by kernel_rfl) (by kernel_rfl) (fun _ _ _ h => h) (Or.inl ⟨by rfl, ?_⟩) hHeld ?_
              case refine_2 => (intro w hSw; (try dsimp only at hSw); go_simp; all_goals (with_reducible rfl))
              (try simp only [Act.put]); (try simp only [List.setIfInBounds_toArray]); (try simp only [List.set_cons_succ]); (try simp only [List.set_cons_zero])
              refine wpAnyH_take (i := 7) (v := ?_) opAt7 (by kernel_rfl) (by kernel_rfl) (by kernel_rfl) (fun _ _ _ h => h) (Or.inl ⟨by rfl, ?_⟩) hHeld ?_
              case refine_2 => (intro w hSw; (try dsimp only at hSw); go_simp; all_goals (with_reducible rfl))
              (try simp only [Act.put]); (try simp only [List.setIfInBounds_toArray]); (try simp only [List.set_cons_succ]); (try simp only [List.set_cons_zero])
              refine wpAnyH_take (i := 8) (v := ?_) opAt8 (by kernel_rfl) (by kernel_rfl) (by kernel_rfl) (fun _ _ _ h => h) (Or.inl ⟨by rfl, ?_⟩) hHeld ?_
              case refine_2 => (intro w hSw; (try dsimp only at hSw); go_simp; all_goals (with_reducible rfl))
              (try simp only [Act.put]); (try simp only [List.setIfInBounds_toArray]); (try simp only [List.set_cons_succ]); (try simp only [List.set_cons_zero])
              refine wpAnyH_take (i := 9) (v := .agg z.cells.toArray) opAt9 (by kernel_rfl) (by kernel_rfl) (by kernel_rfl) (fun _ _ _ h => h) (yieldsIf_load_mid (by rfl) 24 _ (by rfl) g (i * 8 + q2 * 8) (by rfl) z.cells _ (fun w hS => hS.2.2) Try.underlying24 rfl info24) hHeld ?_
              (try simp only [Act.put]); (try simp only [List.setIfInBounds_toArray]); (try simp only [List.set_cons_succ]); (try simp only [List.set_cons_zero])
              refine wpAnyH_ready (rs := [10]) (by kernel_rfl) (by simp) ?_
              refine AllReadyH.cons opAt10 (fun K hK => ?_) AllReadyH.nil
              go_simp
              go_at_call 45; refine (eq_call u z bk _ hHeld.1).mono ?_; rintro e w6 ⟨rfl, k5⟩; have K5 := Lib.hid k5; dsimp only
              refine hK.out _ _ ?_ (fun hHeld => ?_)
              · exact ⟨k5.cell hHeld.1 (fun f => f), fun k v hv => k5.cell (hHeld.2.1 k v hv) (fun f => f), fun k v hv => k5.cell (hHeld.2.2 k v hv) (fun f => f)⟩
              clear hK K
              (try simp only [Act.put]); (try simp only [List.setIfInBounds_toArray]); (try simp only [List.set_cons_succ]); (try simp only [List.set_cons_zero])
              refine wpAnyH_take (i := 11) (v := ?_) opAt11 (by kernel_rfl) (by kernel_rfl) (by kernel_rfl) (fun _ _ _ h => h) (Or.inl ⟨by rfl, ?_⟩) hHeld ?_
              case refine_2 => (intro w hSw; (try dsimp only at hSw); go_simp; all_goals (with_reducible rfl))
              (try simp only [Act.put]); (try simp only [List.setIfInBounds_toArray]); (try simp only [List.set_cons_succ]); (try simp only [List.set_cons_zero])
              refine wpAnyH_done (by kernel_rfl) ?_ _
              rw [hbe]
              go_wp2
              go_roundg (n - (i + k2))
              case measure => have := HG2.out; have := HD.out; omega
              case rel => exact ⟨k, k2 + 1, L1, by have := HD.out; omega, by omega, by have := KK.out; omega, by omega, rfl, by go_num, hl1, own_keptS HO2.out.drew K5.out (fun _ _ f => f), HI.out, TK.out.trans DE2.out.symm, K1.out.drew.trans K5.out (fun _ _ h => h) (fun _ _ f => f.elim)⟩
            · have hbe : (u.id == z.id) = false := by simp [hd2]
              have hde : ddF L (i + k2 + 1) = ddF L (i + k2) ++ [u] := by
                rw [← HU.out]; exact ddF_keep (.inr (by rw [show i + k2 - 1 = i + q2 by have := HQ2.out; omega, HU.out, HZ.out]; exact hd2))
              have DE2 := Lib.hid hde
              clear hd2 hde
              go_wp2
              refine wp_region_held_drew (S := (fun w' => w'.cell? ⟨bk, 0, none⟩ = some (.func (.func 33) #[] #[]) ∧ w'.rangeAt g (i * 8 + k2 * 8) u.cells ∧ w'.rangeAt g (i * 8 + q2 * 8) z.cells)) (by kernel_rfl) ?_ (fun hHeld => ?_)
              · exact ⟨hb0, rx, ry⟩
              refine wpAnyH_take (i := 0) (v := ?_) opAt0 (by kernel_rfl) (by kernel_rfl) (by kernel_rfl) (fun _ _ _ h => h) (Or.inl ⟨by rfl, ?_⟩) hHeld ?_
              case refine_2 => (intro w hSw; (try dsimp only at hSw); go_simp; all_goals (with_reducible rfl))
              (try simp only [Act.put]); (try simp only [List.setIfInBounds_toArray]); (try simp only [List.set_cons_succ]); (try simp only [List.set_cons_zero])
              refine wpAnyH_take (i := 1) (v := ?_) opAt1 (by kernel_rfl) (by kernel_rfl) (by kernel_rfl) (fun _ _ _ h => h) (Or.inl ⟨by rfl, ?_⟩) hHeld ?_
              case refine_2 => (intro w hSw; (try dsimp only at hSw); go_simp; all_goals (with_reducible rfl))
              (try simp only [Act.put]); (try simp only [List.setIfInBounds_toArray]); (try simp only [List.set_cons_succ]); (try simp only [List.set_cons_zero])
              refine wpAnyH_take (i := 2) (v := ?_) opAt2 (by kernel_rfl) (by kernel_rfl) (by kernel_rfl) (fun _ _ _ h => h) (Or.inl ⟨by rfl, ?_⟩) hHeld ?_
              case refine_2 => (intro w hSw; (try dsimp only at hSw); go_simp; all_goals (with_reducible rfl))
              (try simp only [Act.put]); (try simp only [List.setIfInBounds_toArray]); (try simp only [List.set_cons_succ]); (try simp only [List.set_cons_zero])
              refine wpAnyH_take (i := 3) (v := ?_) opAt3 (by kernel_rfl) (by kernel_rfl) (by kernel_rfl) (fun _ _ _ h => h) (Or.inl ⟨by rfl, ?_⟩) hHeld ?_
              case refine_2 => (intro w hSw; (try dsimp only at hSw); go_simp; all_goals (with_reducible rfl))
              (try simp only [Act.put]); (try simp only [List.setIfInBounds_toArray]); (try simp only [List.set_cons_succ]); (try simp only [List.set_cons_zero])
              refine wpAnyH_take (i := 4) (v := .agg u.cells.toArray) opAt4 (by kernel_rfl) (by kernel_rfl) (by kernel_rfl) (fun _ _ _ h => h) (yieldsIf_load_mid (by rfl) 24 _ (by rfl) g (i * 8 + k2 * 8) (by rfl) u.cells _ (fun w hS => hS.2.1) Try.underlying24 rfl info24) hHeld ?_
              (try simp only [Act.put]); (try simp only [List.setIfInBounds_toArray]); (try simp only [List.set_cons_succ]); (try simp only [List.set_cons_zero])
              refine wpAnyH_take (i := 5) (v := ?_) opAt5 (by kernel_rfl) (by kernel_rfl) (by kernel_rfl) (fun _ _ _ h => h) (Or.inl ⟨by rfl, ?_⟩) hHeld ?_
              case refine_2 => (intro w hSw; (try dsimp only at hSw); go_simp; all_goals (with_reducible rfl))
              (try simp only [Act.put]); (try simp only [List.setIfInBounds_toArray]); (try simp only [List.set_cons_succ]); (try simp only [List.set_cons_zero])
              refine wpAnyH_take (i := 6) (v := ?_) opAt6 (by kernel_rfl) (by kernel_rfl) (by kernel_rfl) (fun _ _ _ h => h) (Or.inl ⟨by rfl, ?_⟩) hHeld ?_
              case refine_2 => (intro w hSw; (try dsimp only at hSw); go_simp; all_goals (with_reducible rfl))
              (try simp only [Act.put]); (try simp only [List.setIfInBounds_toArray]); (try simp only [List.set_cons_succ]); (try simp only [List.set_cons_zero])
              refine wpAnyH_take (i := 7) (v := ?_) opAt7 (by kernel_rfl) (by kernel_rfl) (by kernel_rfl) (fun _ _ _ h => h) (Or.inl ⟨by rfl, ?_⟩) hHeld ?_
              case refine_2 => (intro w hSw; (try dsimp only at hSw); go_simp; all_goals (with_reducible rfl))
              (try simp only [Act.put]); (try simp only [List.setIfInBounds_toArray]); (try simp only [List.set_cons_succ]); (try simp only [List.set_cons_zero])
              refine wpAnyH_take (i := 8) (v := ?_) opAt8 (by kernel_rfl) (by kernel_rfl) (by kernel_rfl) (fun _ _ _ h => h) (Or.inl ⟨by rfl, ?_⟩) hHeld ?_
              case refine_2 => (intro w hSw; (try dsimp only at hSw); go_simp; all_goals (with_reducible rfl))
              (try simp only [Act.put]); (try simp only [List.setIfInBounds_toArray]); (try simp only [List.set_cons_succ]); (try simp only [List.set_cons_zero])
              refine wpAnyH_take (i := 9) (v := .agg z.cells.toArray) opAt9 (by kernel_rfl) (by kernel_rfl) (by kernel_rfl) (fun _ _ _ h => h) (yieldsIf_load_mid (by rfl) 24 _ (by rfl) g (i * 8 + q2 * 8) (by rfl) z.cells _ (fun w hS => hS.2.2) Try.underlying24 rfl info24) hHeld ?_
              (try simp only [Act.put]); (try simp only [List.setIfInBounds_toArray]); (try simp only [List.set_cons_succ]); (try simp only [List.set_cons_zero])
              refine wpAnyH_ready (rs := [10]) (by kernel_rfl) (by simp) ?_
              refine AllReadyH.cons opAt10 (fun K hK => ?_) AllReadyH.nil
              go_simp
              go_at_call 45; refine (eq_call u z bk _ hHeld.1).mono ?_; rintro e w6 ⟨rfl, k5⟩; have K5 := Lib.hid k5; dsimp only
              refine hK.out _ _ ?_ (fun hHeld => ?_)
              · exact ⟨k5.cell hHeld.1 (fun f => f), fun k v hv => k5.cell (hHeld.2.1 k v hv) (fun f => f), fun k v hv => k5.cell (hHeld.2.2 k v hv) (fun f => f)⟩
              clear hK K
              (try simp only [Act.put]); (try simp only [List.setIfInBounds_toArray]); (try simp only [List.set_cons_succ]); (try simp only [List.set_cons_zero])
              refine wpAnyH_take (i := 11) (v := ?_) opAt11 (by kernel_rfl) (by kernel_rfl) (by kernel_rfl) (fun _ _ _ h => h) (Or.inl ⟨by rfl, ?_⟩) hHeld ?_
              case refine_2 => (intro w hSw; (try dsimp only at hSw); go_simp; all_goals (with_reducible rfl))
              (try simp only [Act.put]); (try simp only [List.setIfInBounds_toArray]); (try simp only [List.set_cons_succ]); (try simp only [List.set_cons_zero])
              refine wpAnyH_done (by kernel_rfl) ?_ _
              rw [hbe]
              have hkl : k < L1.length := by have := KK.out; have := HD.out; omega
              have HO6 := Lib.hid (own_keptS HO2.out.drew K5.out (fun _ _ f => f))
              have rx2 := own_range HO6.out GX.out
              rw [Nat.add_mul] at rx2
              have FO := Lib.hid (own_set HO6.out u hkl)
              have KF6 := Lib.hid (Kept.setCells (S := fun k => k = g) (fun _ => rfl) u.cells (k * 8) ((K1.out.drew.trans (K5.out.mono (fun _ _ f => f.elim) : Kept (fun k => k = g) _ w6) (fun _ _ h => h) (fun _ _ h => h) : Kept (fun k => k = g) w w6)))
              have f8 : (0 : Int) ≤ (k : Int) := by omega
              have f9 : (k : Int) < (n : Int) := by omega
              go_wp2_with (first | (refine wpList_load_mid (by rfl) 24 _ (by rfl) g (i * 8 + k2 * 8) (by rfl) u.cells _ rx2 Try.underlying24 rfl info24 ?_) | (refine wpList_store_letter (by rfl) 24 _ _ (by rfl) g (k * 8) u.cells.toArray (by rfl) (by rfl) (own_there HO6.out hkl) info24 (cells_all u) ?_; intro W3 hW3; have FOc : Hid (W3.ownsRow base 24 8 (.slice (some ⟨g, 0, none⟩) n cap) n (cellsS (L1.set k u))) := Lib.hid (by rw [hW3]; exact FO.out); have KFc : Hid (Kept (fun k => k = g) w W3) := Lib.hid (by rw [hW3]; exact KF6.out); clear hW3))
              go_roundg (n - (i + k2))
              case measure => have := HG2.out; have := HD.out; omega
              case rel => exact ⟨k + 1, k2 + 1, L1.set k u, by have := HD.out; omega, by omega, by have := KK.out; omega, by omega, by go_num, by go_num, by simpa using hl1, FOc.out, fun t ht => by rw [nth_set _ _ _ _ hkl, if_neg (by omega)]; exact HI.out t (by omega), by rw [take_set_snoc _ hkl, TK.out]; exact DE2.out.symm, KFc.out⟩
          · have f2 : ¬ (k2 : Int) < (d : Int) := by omega
            obtain ⟨vs, hcl0⟩ := clear_spans wr k HO2.out hl1 (by have := KK.out; have := HD.out; omega)
            obtain ⟨W3, hW3⟩ : ∃ W3, wr.setCells g (k * 8) vs = W3 := ⟨_, rfl⟩
            have hcl : ∀ ty, (Builtin.clear_ #[22] ty #[.slice (some ⟨g, k * 8, none⟩) (n - k) (cap - k)]).run Try.prog wr = .ok (.tuple #[]) W3 := fun ty => by rw [← hW3]; exact hcl0 ty _
            have HF := Lib.hid (show ReadsS W3 (.slice (some ⟨g, 0, none⟩) (ddF L n).length cap) (ddF L n) ∧ (ddF L n).length = k from by
              have hend : ddF L n = L1.take k := by rw [TK.out]; congr 1; have := HD.out; omega
              rw [hend, ← hW3]
              refine ⟨own_reads (own_setL vs (k * 8) HO2.out) (fun j hj => ?_) cap, by rw [List.length_take]; omega⟩
              rw [setL_low _ _ _ _ (by rw [List.length_take] at hj; omega)]
              exact cells_take hj)
            have KF := Lib.hid (show Kept (fun k => k = g) w W3 by rw [← hW3]; exact Kept.setCells (S := fun k => k = g) (fun _ => rfl) vs (k * 8) K1.out)
            have f8 : (0 : Int) ≤ (k : Int) := by omega
            have f9 : (k : Int) ≤ (n : Int) := by omega
            have f10 : (k : Int) ≤ (cap : Int) := by omega
            have f11 : k < cap := by have := KK.out; have := HD.out; omega
            have f12 : (k : Int) < (cap : Int) := by omega
            clear hcl0 hW3
            go_wp2
            go_ret
            have h := HF.out.1
            rw [HF.out.2] at h ⊢
            exact ⟨cap, rfl, h, KF.out⟩
      · have hbe : (x.id == y.id) = false := by simp [hd]
        have hde : ddF L (i + 1) = L.take (i + 1) := by rw [ddF_keep (.inr (by rw [HQ.out, HX.out, HY.out]; exact hd)), take_snoc (by omega), DD.out]
        have DE := Lib.hid hde
        clear hd hde
        go_wp2
        refine wp_region_held_drew (S := (fun w' => w'.cell? ⟨bk, 0, none⟩ = some (.func (.func 33) #[] #[]) ∧ w'.rangeAt g (i * 8) x.cells ∧ w'.rangeAt g (q * 8) y.cells)) (by kernel_rfl) ?_ (fun hHeld => ?_)
        · exact ⟨hb0, rx, ry⟩
        refine wpAnyH_take (i := 0) (v := ?_) opAt0 (by kernel_rfl) (by kernel_rfl) (by kernel_rfl) (fun _ _ _ h => h) (Or.inl ⟨by rfl, ?_⟩) hHeld ?_
        case refine_2 => (intro w hSw; (try dsimp only at hSw); go_simp; all_goals (with_reducible rfl))
        (try simp only [Act.put]); (try simp only [List.setIfInBounds_toArray]); (try simp only [List.set_cons_succ]); (try simp only [List.set_cons_zero])
        refine wpAnyH_take (i := 1) (v := ?_) opAt1 (by kernel_rfl) (by kernel_rfl) (by kernel_rfl) (fun _ _ _ h => h) (Or.inl ⟨by rfl, ?_⟩) hHeld ?_
        case refine_2 => (intro w hSw; (try dsimp only at hSw); go_simp; all_goals (with_reducible rfl))
        (try simp only [Act.put]); (try simp only [List.setIfInBounds_toArray]); (try simp only [List.set_cons_succ]); (try simp only [List.set_cons_zero])
        refine wpAnyH_take (i := 2) (v := ?_) opAt2 (by kernel_rfl) (by kernel_rfl) (by kernel_rfl) (fun _ _ _ h => h) (Or.inl ⟨by rfl, ?_⟩) hHeld ?_
        case refine_2 => (intro w hSw; (try dsimp only at hSw); go_simp; all_goals (with_reducible rfl))
        (try simp only [Act.put]); (try simp only [List.setIfInBounds_toArray]); (try simp only [List.set_cons_succ]); (try simp only [List.set_cons_zero])
        refine wpAnyH_take (i := 3) (v := ?_) opAt3 (by kernel_rfl) (by kernel_rfl) (by kernel_rfl) (fun _ _ _ h => h) (Or.inl ⟨by rfl, ?_⟩) hHeld ?_
        case refine_2 => (intro w hSw; (try dsimp only at hSw); go_simp; all_goals (with_reducible rfl))
        (try simp only [Act.put]); (try simp only [List.setIfInBounds_toArray]); (try simp only [List.set_cons_succ]); (try simp only [List.set_cons_zero])
        refine wpAnyH_take (i := 4) (v := .agg x.cells.toArray) opAt4 (by kernel_rfl) (by kernel_rfl) (by kernel_rfl) (fun _ _ _ h => h) (yieldsIf_load_mid (by rfl) 24 _ (by rfl) g (i * 8) (by rfl) x.cells _ (fun w hS => hS.2.1) Try.underlying24 rfl info24) hHeld ?_
        (try simp only [Act.put]); (try simp only [List.setIfInBounds_toArray]); (try simp only [List.set_cons_succ]); (try simp only [List.set_cons_zero])
        refine wpAnyH_take (i := 5) (v := ?_) opAt5 (by kernel_rfl) (by kernel_rfl) (by kernel_rfl) (fun _ _ _ h => h) (Or.inl ⟨by rfl, ?_⟩) hHeld ?_
        case refine_2 => (intro w hSw; (try dsimp only at hSw); go_simp; all_goals (with_reducible rfl))
        (try simp only [Act.put]); (try simp only [List.setIfInBounds_toArray]); (try simp only [List.set_cons_succ]); (try simp only [List.set_cons_zero])
        refine wpAnyH_take (i := 6) (v := ?_) opAt6 (by kernel_rfl) (by kernel_rfl) (by kernel_rfl) (fun _ _ _ h => h) (Or.inl ⟨by rfl, ?_⟩) hHeld ?_
        case refine_2 => (intro w hSw; (try dsimp only at hSw); go_simp; all_goals (with_reducible rfl))
        (try simp only [Act.put]); (try simp only [List.setIfInBounds_toArray]); (try simp only [List.set_cons_succ]); (try simp only [List.set_cons_zero])
        refine wpAnyH_take (i := 7) (v := ?_) opAt7 (by kernel_rfl) (by kernel_rfl) (by kernel_rfl) (fun _ _ _ h => h) (Or.inl ⟨by rfl, ?_⟩) hHeld ?_
        case refine_2 => (intro w hSw; (try dsimp only at hSw); go_simp; all_goals (with_reducible rfl))
        (try simp only [Act.put]); (try simp only [List.setIfInBounds_toArray]); (try simp only [List.set_cons_succ]); (try simp only [List.set_cons_zero])
        refine wpAnyH_take (i := 8) (v := ?_) opAt8 (by kernel_rfl) (by kernel_rfl) (by kernel_rfl) (fun _ _ _ h => h) (Or.inl ⟨by rfl, ?_⟩) hHeld ?_
        case refine_2 => (intro w hSw; (try dsimp only at hSw); go_simp; all_goals (with_reducible rfl))
        (try simp only [Act.put]); (try simp only [List.setIfInBounds_toArray]); (try simp only [List.set_cons_succ]); (try simp only [List.set_cons_zero])
        refine wpAnyH_take (i := 9) (v := .agg y.cells.toArray) opAt9 (by kernel_rfl) (by kernel_rfl) (by kernel_rfl) (fun _ _ _ h => h) (yieldsIf_load_mid (by rfl) 24 _ (by rfl) g (q * 8) (by rfl) y.cells _ (fun w hS => hS.2.2) Try.underlying24 rfl info24) hHeld ?_
        (try simp only [Act.put]); (try simp only [List.setIfInBounds_toArray]); (try simp only [List.set_cons_succ]); (try simp only [List.set_cons_zero])
        refine wpAnyH_ready (rs := [10]) (by kernel_rfl) (by simp) ?_
        refine AllReadyH.cons opAt10 (fun K hK => ?_) AllReadyH.nil
        go_simp
        go_at_call 45; refine (eq_call x y bk _ hHeld.1).mono ?_; rintro e w5 ⟨rfl, k5⟩; have K5 := Lib.hid k5; dsimp only
        refine hK.out _ _ ?_ (fun hHeld => ?_)
        · exact ⟨k5.cell hHeld.1 (fun f => f), fun k v hv => k5.cell (hHeld.2.1 k v hv) (fun f => f), fun k v hv => k5.cell (hHeld.2.2 k v hv) (fun f => f)⟩
        clear hK K
        (try simp only [Act.put]); (try simp only [List.setIfInBounds_toArray]); (try simp only [List.set_cons_succ]); (try simp only [List.set_cons_zero])
        refine wpAnyH_done (by kernel_rfl) ?_ _
        rw [hbe]
        go_wp2
        go_roundg (n - (i + 1))
        case measure => have := HG.out; omega
        case rel => exact ⟨i + 1, by omega, by omega, by go_num, DE.out, keptFF (KW.out.drew) K5.out⟩
    · have e2 : ¬ (i : Int) < (n : Int) := by omega
      have hin2 : i = n := by omega
      have IN := Lib.hid hin2
      clear hin2
      go_wp2
      go_ret
      have hdd : ddF L n = L := by rw [← IN.out, DD.out, IN.out, ← hl, List.take_length]
      rw [hdd, hl]
      have h := own_reads (R := L) HO1.out (fun j hj => rfl) cap
      rw [hl] at h
      exact ⟨cap, rfl, h, KW.out.mono (fun _ _ f => f.elim)⟩
end Go.Proofs.Ytjidldbolbjdpaa
