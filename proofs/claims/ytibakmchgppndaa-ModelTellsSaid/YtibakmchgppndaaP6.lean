/- TCompact, TCntp, TKeep, TPlace, TCyc, TRow1, TCycles, TWood -/
import Derived.Test.YtibakmchgppndaaP5
import Derived.Lib.Walk
import Derived.Lib.SliceRun
import Derived.Deep.MidRow
import Derived.Lib.AppendZeros
/- slices.Clone, slices.CompactFunc over spans. -/
namespace Go.Proofs.Ytibakmchgppndaa
open Go.RowKit

def zeroT : Spn := ⟨0, 0, 0, ⟨#[]⟩, ⟨#[]⟩, 0, 0, ⟨#[]⟩⟩
theorem inf24 : (Try.prog.info? 37).map (fun i => (i.zero, i.size, i.bytes)) = some (some (.agg zeroT.cells.toArray), 8, 88) := by kernel_rfl

set_option maxHeartbeats 2000000 in
theorem clone_any (w : World) (v : Value) (R : List Spn) (h : ReadsS w v R) (hl : R.length ≤ 1000) (hne : 0 < R.length) :
  Calls Try.prog 84 #[v] w fun e w' => ∃ v', e = .returned v' ∧ w'.ownsRow w.heap.size 37 8 v' R.length (cellsS R) ∧ Kept (fun _ => False) w w' := by
 obtain ⟨i0, hi, hz0, hz1, hz2⟩ := info_parts inf24
 obtain ⟨ao, cap, rfl, h⟩ := h
 rcases h with h0 | ⟨g, o, rfl, hc⟩
 ·rw [h0] at hne; simp at hne
 have q25 : ∀ (w : World) (a : Option Addr) (n c n' c' : Nat), (binOp .eql 27 (.slice a n c) (.slice none n' c')).run Try.prog w = .ok (.bool a.isNone) w := fun w a n c n' c' => Lib.run_eql_slice_nil w _ _ a n c n' c' Try.underlying27
 have HC := Lib.hid hc; clear hc
 go_enter Try.func84, Try.ntmps84
 go_wp2_with (at_builtin; refine wpList_append_own _ rfl _ _ 27 rfl w.heap.size 37 i0 _ 8 88 Try.underlying27 hi hz0 hz1 hz2 rfl (by decide) _ _ _ rfl (World.ownsRow_made w #[] 0 (Nat.le_refl _) (Nat.zero_le _) rfl) ⟨g, o, none⟩ R.length cap (cellsS R) rfl ?qc1 ?qc2 ?qc3 ?qc4 ?qc5 ?qc6 ?_)
 case qc1 => exact cellsS_length R
 case qc2 =>
  intro j u hj
  rw [add_mid]
  have := HC.out j u hj
  exact (Below.cell ((Below.refl _ w).alloc (Nat.le_refl _) _) (World.block_lt_of_cell? _ _ this)).trans this
 case qc3 => exact cellsS_one R
 case qc4 => unfold maxLen; omega
 case qc5 => omega
 case qc6 => simp
 intro v' w1 hown hgrow hnil
 have HO := Lib.hid hown; have HG := Lib.hid hgrow; clear hown hgrow hnil
 go_wp2
 go_ret
 refine ⟨v', rfl, by simpa using HO.out, ((Kept.refl (fun _ => False) w).alloc _).grown HG.out (fun k hk hlt => ?_)⟩
 simp [Value.ownBlock] at hk; omega

/-- Of each run of one ID the first, among the first j. -/
def ddF (L : List Spn) : Nat → List Spn
 | 0 => []
 | j + 1 => if j = 0 ∨ (nth L j).id ≠ (nth L (j - 1)).id then ddF L j ++ [nth L j] else ddF L j
theorem ddF_le (L : List Spn) : ∀ j, (ddF L j).length ≤ j
 | 0 => Nat.le_refl _
 | j + 1 => by
  have := ddF_le L j
  unfold ddF; split
  ·simp; omega
  ·omega
theorem ddF_keep {L : List Spn} {j : Nat} (h : j = 0 ∨ (nth L j).id ≠ (nth L (j - 1)).id) : ddF L (j + 1) = ddF L j ++ [nth L j] := by rw [ddF, if_pos h]
theorem ddF_skip {L : List Spn} {j : Nat} (h0 : j ≠ 0) (h : (nth L j).id = (nth L (j - 1)).id) : ddF L (j + 1) = ddF L j := by rw [ddF, if_neg (by simp [h0, h])]
theorem take_snoc {L : List Spn} {i : Nat} (h : i < L.length) : L.take (i + 1) = L.take i ++ [nth L i] := by
 rw [List.take_add_one, nth_get h]; rfl
theorem take_set_snoc {L : List Spn} {i : Nat} (x : Spn) (h : i < L.length) : (L.set i x).take (i + 1) = L.take i ++ [x] := by
 rw [take_snoc (by simpa using h), List.take_set_of_le (Nat.le_refl _), nth_set _ _ _ _ h, if_pos rfl]

theorem wpList_store_letter {P : Program} {ops : Array Oper} {rest : List Oper} {op : Oper} {a : Act} {w : World} {Q : Exit → Act → World → Prop} (hgd : op.guard = none) (ty : TypeId) (x y : Operand) (ho : op.op = .store ty x y)
  (b o : Nat) (cells : Array Value) (hx : a.eval x = .pointer (some ⟨b, o, none⟩)) (hy : a.eval y = .agg cells)
  (ht : w.there b o cells.size) (hi : (P.info? ty).map (·.size) = some cells.size) (h1 : cells.all (·.oneCell') = true)
  (h : ∀ W, W = w.setCells b o cells.toList → wpList P ops Q rest (a.put op.dst undef) W) : wpList P ops Q (op :: rest) a w :=
 wpList_store_mid hgd ty x y ho b o cells hx hy ht hi h1 (h _ rfl)
theorem eq_call (x y : Spn) (bk : Nat) (w : World) (h : w.cell? ⟨bk, 0, none⟩ = some (.func (.func 73) #[] #[])) :
  Calls Try.prog 88 #[.agg x.cells.toArray, .agg y.cells.toArray, .pointer (some ⟨bk, 0, none⟩)] w fun e w' => e = .returned (.bool (x.id == y.id)) ∧ Kept (fun _ => False) w w' := eq_any x y bk w h
theorem zeroV24 (w : World) : (zeroValue 37).run Try.prog w = .ok (.agg zeroT.cells.toArray) w := by
 obtain ⟨i0, hi, hz0, hz1, hz2⟩ := info_parts inf24
 have h : Try.t37.zero = some (.agg zeroT.cells.toArray) := by kernel_rfl
 simp only [zeroValue]
 simp [h]
theorem clear_spans (w : World) {base g n cap : Nat} {L : List Spn} (k : Nat) (ho : w.ownsRow base 37 8 (.slice (some ⟨g, 0, none⟩) n cap) n (cellsS L)) (hl : L.length = n) (hk : k < n) :
  ∃ vs : List Value, ∀ (ty : TypeId) (c : Nat), (Builtin.clear_ #[27] ty #[.slice (some ⟨g, k * 8, none⟩) (n - k) c]).run Try.prog w = .ok (.tuple #[]) (w.setCells g (k * 8) vs) := by
 refine ⟨(Builtin.zeroCells zeroT.cells.toArray (n - k)).toList, fun ty c => ?_⟩
 have hlen : (Builtin.zeroCells zeroT.cells.toArray (n - k)).toList.length = (n - k) * 8 := by simp [Builtin.zeroCells, Spn.cells]
 have hst := run_storeCells_cells (P := Try.prog) g (k * 8) (Builtin.zeroCells zeroT.cells.toArray (n - k)).toList 0 w
  (fun j hj => by
   rw [hlen] at hj
   have hi : k * 8 + j < (cellsS L).length := by rw [cellsS_length]; omega
   have := ho.cells (g := g) rfl _ _ (List.getElem?_eq_getElem hi)
   rw [add_mid, Nat.zero_add] at this
   rw [Nat.add_zero, this]; rfl)
  (fun j hj => by rw [Nat.add_zero]; exact ho.frozenAt _)
  (fun v hv => by
   simp [Builtin.zeroCells] at hv
   obtain ⟨i, hi, rfl⟩ := hv
   have h8 : i % zeroT.cells.length < 8 := by
    have : zeroT.cells.length = 8 := rfl
    rw [this]; omega
   generalize i % zeroT.cells.length = r at h8
   have : r = 0 ∨ r = 1 ∨ r = 2 ∨ r = 3 ∨ r = 4 ∨ r = 5 ∨ r = 6 ∨ r = 7 := by omega
   rcases this with rfl | rfl | rfl | rfl | rfl | rfl | rfl | rfl <;> rfl)
 rw [Nat.add_zero] at hst
 obtain ⟨m, hm⟩ : ∃ m, n - k = m + 1 := ⟨n - k - 1, by omega⟩
 rw [hm] at hst ⊢
 have hz := zeroV24
 generalize zeroT.cells.toArray = zs at hst hz ⊢
 simp [Builtin.clear_, run_underlying Try.underlying27, hz, hst, Value.cells]
theorem setL_low : ∀ (vs : List Value) (xs : List Value) (f j : Nat), j < f → (setL xs f vs)[j]? = xs[j]?
 | [], _, _, _, _ => rfl
 | v :: r, xs, f, j, h => by rw [setL, setL_low r _ _ _ (by omega), List.getElem?_set_ne (by omega)]
theorem own_reads {w : World} {base g n cap : Nat} {xs : List Value} {R : List Spn} (ho : w.ownsRow base 37 8 (.slice (some ⟨g, 0, none⟩) n cap) n xs) (h : ∀ j, j < R.length * 8 → xs[j]? = (cellsS R)[j]?) (c : Nat) : ReadsS w (.slice (some ⟨g, 0, none⟩) R.length c) R := by
 refine ⟨_, c, rfl, .inr ⟨g, 0, rfl, fun j u hu => ?_⟩⟩
 have hj : j < R.length * 8 := by have := (List.getElem?_eq_some_iff.1 hu).1; rwa [cellsS_length] at this
 have := ho.cells (g := g) rfl j u ((h j hj).trans hu)
 rwa [add_mid] at this
theorem cells_take {L : List Spn} {k j : Nat} (hj : j < (L.take k).length * 8) : (cellsS L)[j]? = (cellsS (L.take k))[j]? := by
 have h : cellsS L = cellsS (L.take k) ++ cellsS (L.drop k) := by rw [← cellsS_append, List.take_append_drop]
 rw [h, List.getElem?_append_left (by rw [cellsS_length]; exact hj)]

set_option maxHeartbeats 16000000 in
set_option maxRecDepth 100000 in
theorem compact_any {w : World} {base g n cap bk : Nat} {L : List Spn} (ho : w.ownsRow base 37 8 (.slice (some ⟨g, 0, none⟩) n cap) n (cellsS L)) (hl : L.length = n) (hn : n ≤ 1000) (hcap : n ≤ cap) (hk : w.cell? ⟨bk, 0, none⟩ = some (.func (.func 73) #[] #[])) (hne : bk ≠ g) :
  Calls Try.prog 87 #[.slice (some ⟨g, 0, none⟩) n cap, .func (.func 88) #[] #[.pointer (some ⟨bk, 0, none⟩)]] w fun e w' => ∃ c, e = .returned (.slice (some ⟨g, 0, none⟩) (ddF L n).length c) ∧ ReadsS w' (.slice (some ⟨g, 0, none⟩) (ddF L n).length c) (ddF L n) ∧ Kept (fun k => k = g) w w' := by
 have HO0 := Lib.hid ho; have HK0 := Lib.hid hk
 clear ho hk
 by_cases h2 : n < 2
 ·have e1 : (n : Int) < 2 := by omega
  have hdd : ddF L n = L := by
   rcases (show n = 0 ∨ n = 1 by omega) with rfl | rfl
   ·rw [List.length_eq_zero_iff.1 hl]; rfl
   ·obtain ⟨x, rfl⟩ := List.length_eq_one_iff.1 hl
    rfl
  have DD := Lib.hid hdd
  clear hdd
  go_enter Try.func87, Try.ntmps87
  go_wp2
  go_ret
  rw [DD.out, hl]
  have h := own_reads (R := L) HO0.out (fun j hj => rfl) cap
  rw [hl] at h
  exact ⟨cap, rfl, h, Kept.refl _ _⟩
 have e1 : ¬ (n : Int) < 2 := by omega
 go_enter Try.func87, Try.ntmps87
 go_wp2
 go_loopg [5, 6, 7] (n - 1) (fun gh s _ _ wr => ∃ (i : Nat), i + gh = n ∧ 1 ≤ i ∧ s = .int .i64 i ∧ ddF L i = L.take i ∧ Kept (fun _ => False) w wr)
 case atStart => exact ⟨1, by omega, Nat.le_refl _, by go_num, by rw [ddF_keep (.inl rfl), take_snoc (by omega)]; rfl, Kept.refl _ _⟩
 case round =>
  obtain ⟨i, hg, hi1, rfl, hdd, kw⟩ := hrel
  have HG := Lib.hid hg; have DD := Lib.hid hdd; have KW := Lib.hid kw
  have hin : i ≤ n := by omega
  clear hg hdd kw
  have HO1 := Lib.hid (own_keptS HO0.out KW.out (fun _ _ f => f))
  have hb0 := KW.out.cell HK0.out (fun f => f)
  by_cases hlt : i < n
  ·have e2 : (i : Int) < (n : Int) := by omega
   obtain ⟨q, hq⟩ : ∃ q, i - 1 = q := ⟨_, rfl⟩
   have e3 : IntKind.i64.wrap ((i : Int) - 1) = (q : Int) := by rw [show (i : Int) - 1 = (q : Int) by omega]; exact IntWalk.i64_in _ (by omega)
   obtain ⟨x, hx⟩ : ∃ x, nth L i = x := ⟨_, rfl⟩
   obtain ⟨y, hy⟩ : ∃ y, nth L q = y := ⟨_, rfl⟩
   have gx := nth_get (l := L) (k := i) (by omega)
   have gy := nth_get (l := L) (k := q) (by omega)
   rw [hx] at gx; rw [hy] at gy
   have rx := own_range HO1.out gx
   have ry := own_range HO1.out gy
   have HX := Lib.hid hx; have HY := Lib.hid hy; have HQ := Lib.hid hq
   have i1 : (0 : Int) ≤ (i : Int) := by omega
   have i2 : (i : Int) < (n : Int) := by omega
   have i3 : (0 : Int) ≤ (q : Int) := by omega
   have i4 : (q : Int) < (n : Int) := by omega
   clear hx hy gx gy hq
   by_cases hd : x.id = y.id
   ·have hbe : (x.id == y.id) = true := by simp [hd]
    have hde : ddF L (i + 1) = L.take i := by rw [ddF_skip (by omega) (by rw [HQ.out, HX.out, HY.out]; exact hd)]; exact DD.out
    have DE := Lib.hid hde
    have i5 : (i : Int) ≤ (n : Int) := by omega
    have i6 : (i : Int) ≤ (cap : Int) := by omega
    have hle2 : i ≤ n := by omega
    have hle3 : i ≤ cap := by omega
    clear hd hde
    go_wp2
    refine wp_region_held_drew (S := (fun w' => w'.cell? ⟨bk, 0, none⟩ = some (.func (.func 73) #[] #[]) ∧ w'.rangeAt g (i * 8) x.cells ∧ w'.rangeAt g (q * 8) y.cells)) (by kernel_rfl) ?_ (fun hHeld => ?_)
    ·exact ⟨hb0, rx, ry⟩
    refine tW 0 opAt0 hHeld ?_
    (try simp only [Act.put]); try simp only [z2, List.set]
    refine tW 1 opAt1 hHeld ?_
    (try simp only [Act.put]); try simp only [z2, List.set]
    refine tW 2 opAt2 hHeld ?_
    (try simp only [Act.put]); try simp only [z2, List.set]
    refine tW 3 opAt3 hHeld ?_
    (try simp only [Act.put]); try simp only [z2, List.set]
    refine wpAnyH_take (i := 4) (v := .agg x.cells.toArray) opAt4 (by kernel_rfl) (by kernel_rfl) (by kernel_rfl) (fun _ _ _ h => h) (yieldsIf_load_mid (by rfl) 37 _ (by rfl) g (i * 8) (by rfl) x.cells _ (fun w hS => hS.2.1) Try.underlying37 rfl info24) hHeld ?_
    (try simp only [Act.put]); try simp only [z2, List.set]
    refine tW 5 opAt5 hHeld ?_
    (try simp only [Act.put]); try simp only [z2, List.set]
    refine tW 6 opAt6 hHeld ?_
    (try simp only [Act.put]); try simp only [z2, List.set]
    refine tW 7 opAt7 hHeld ?_
    (try simp only [Act.put]); try simp only [z2, List.set]
    refine tW 8 opAt8 hHeld ?_
    (try simp only [Act.put]); try simp only [z2, List.set]
    refine wpAnyH_take (i := 9) (v := .agg y.cells.toArray) opAt9 (by kernel_rfl) (by kernel_rfl) (by kernel_rfl) (fun _ _ _ h => h) (yieldsIf_load_mid (by rfl) 37 _ (by rfl) g (q * 8) (by rfl) y.cells _ (fun w hS => hS.2.2) Try.underlying37 rfl info24) hHeld ?_
    (try simp only [Act.put]); try simp only [z2, List.set]
    refine wpAnyH_ready (rs := [10]) (by kernel_rfl) (by simp) ?_
    refine AllReadyH.cons opAt10 (fun K hK => ?_) AllReadyH.nil
    go_simp
    go_at_call 88; refine (eq_call x y bk _ hHeld.1).mono ?_; rintro e w5 ⟨rfl, k5⟩; have K5 := Lib.hid k5; dsimp only
    refine hK.out _ _ ?_ (fun hHeld => ?_)
    ·exact ⟨k5.cell hHeld.1 (fun f => f), fun k v hv => k5.cell (hHeld.2.1 k v hv) (fun f => f), fun k v hv => k5.cell (hHeld.2.2 k v hv) (fun f => f)⟩
    clear hK K
    (try simp only [Act.put]); try simp only [z2, List.set]
    refine wpAnyH_done (by kernel_rfl) ?_ _
    rw [hbe]
    have KW6 := Lib.hid (keptFF (KW.out.drew) K5.out)
    go_wp2
    obtain ⟨d, hd⟩ : ∃ d, n - i = d := ⟨_, rfl⟩
    obtain ⟨cd, hcd⟩ : ∃ d, cap - i = d := ⟨_, rfl⟩
    have HD := Lib.hid hd
    have hdn : d ≤ n := by omega
    rw [hd, hcd]
    clear hd hcd hb0 rx ry
    go_loopg [5, 7] (n - i) (fun gh s t wr => ∃ (k k2 : Nat) (L1 : List Spn), i + k2 + gh = n + 1 ∧ 1 ≤ k2 ∧ k < i + k2 ∧ k2 ≤ d ∧ s = .int .i64 k ∧ t = .int .i64 k2 ∧ L1.length = n ∧ wr.ownsRow base 37 8 (.slice (some ⟨g, 0, none⟩) n cap) n (cellsS L1) ∧ (∀ t, k ≤ t → nth L1 t = nth L t) ∧ L1.take k = ddF L (i + k2) ∧ Kept (fun k => k = g) w wr)
    case atStart => exact ⟨i, 1, L, by omega, Nat.le_refl _, by omega, by have := HD.out; omega, rfl, by go_num, hl, own_keptS HO0.out KW6.out (fun _ _ f => f), fun _ _ => rfl, DE.out.symm, KW6.out.mono (fun _ _ f => f.elim)⟩
    case round =>
     obtain ⟨k, k2, L1, hg, hk2, hkk, hk2d, rfl, rfl, hl1, ho1, hhi, htk, k1⟩ := hrel
     have HG2 := Lib.hid hg; have HO2 := Lib.hid ho1; have HI := Lib.hid hhi; have TK := Lib.hid htk; have K1 := Lib.hid k1
     have hb0 := k1.cell HK0.out hne
     have KK := Lib.hid hkk
     have hk2n : k2 ≤ n := by omega
     have hkn : k ≤ n := by have := HD.out; omega
     clear hg ho1 hhi htk k1 hkk
     by_cases hlt2 : k2 < d
     ·have f2 : (k2 : Int) < (d : Int) := by omega
      obtain ⟨q2, hq⟩ : ∃ q, k2 - 1 = q := ⟨_, rfl⟩
      have f3 : IntKind.i64.wrap ((k2 : Int) - 1) = (q2 : Int) := by rw [show (k2 : Int) - 1 = (q2 : Int) by omega]; exact IntWalk.i64_in _ (by omega)
      obtain ⟨u, hu⟩ : ∃ x, nth L (i + k2) = x := ⟨_, rfl⟩
      obtain ⟨z, hz⟩ : ∃ y, nth L (i + q2) = y := ⟨_, rfl⟩
      have gx := nth_get (l := L1) (k := i + k2) (by have := HD.out; omega)
      have gy := nth_get (l := L1) (k := i + q2) (by have := HD.out; omega)
      rw [HI.out _ (by have := KK.out; omega), hu] at gx; rw [HI.out _ (by have := KK.out; omega), hz] at gy
      have rx := own_range HO2.out gx
      have ry := own_range HO2.out gy
      have GX := Lib.hid gx
      rw [Nat.add_mul] at rx ry
      have HU := Lib.hid hu; have HZ := Lib.hid hz; have HQ2 := Lib.hid hq
      have f4 : (0 : Int) ≤ (k2 : Int) := by omega
      have f6 : (0 : Int) ≤ (q2 : Int) := by omega
      have f7 : (q2 : Int) < (d : Int) := by omega
      clear hu hz gx gy hq
      by_cases hd2 : u.id = z.id
      ·have hbe : (u.id == z.id) = true := by simp [hd2]
       have hde : ddF L (i + k2 + 1) = ddF L (i + k2) := ddF_skip (by omega) (by rw [show i + k2 - 1 = i + q2 by have := HQ2.out; omega, HU.out, HZ.out]; exact hd2)
       have DE2 := Lib.hid hde
       clear hd2 hde
       go_wp2
       refine wp_region_held_drew (S := (fun w' => w'.cell? ⟨bk, 0, none⟩ = some (.func (.func 73) #[] #[]) ∧ w'.rangeAt g (i * 8 + k2 * 8) u.cells ∧ w'.rangeAt g (i * 8 + q2 * 8) z.cells)) (by kernel_rfl) ?_ (fun hHeld => ?_)
       ·exact ⟨hb0, rx, ry⟩
       refine tW 0 opAt0 hHeld ?_
       (try simp only [Act.put]); try simp only [z2, List.set]
       refine tW 1 opAt1 hHeld ?_
       (try simp only [Act.put]); try simp only [z2, List.set]
       refine tW 2 opAt2 hHeld ?_
       (try simp only [Act.put]); try simp only [z2, List.set]
       refine tW 3 opAt3 hHeld ?_
       (try simp only [Act.put]); try simp only [z2, List.set]
       refine wpAnyH_take (i := 4) (v := .agg u.cells.toArray) opAt4 (by kernel_rfl) (by kernel_rfl) (by kernel_rfl) (fun _ _ _ h => h) (yieldsIf_load_mid (by rfl) 37 _ (by rfl) g (i * 8 + k2 * 8) (by rfl) u.cells _ (fun w hS => hS.2.1) Try.underlying37 rfl info24) hHeld ?_
       (try simp only [Act.put]); try simp only [z2, List.set]
       refine tW 5 opAt5 hHeld ?_
       (try simp only [Act.put]); try simp only [z2, List.set]
       refine tW 6 opAt6 hHeld ?_
       (try simp only [Act.put]); try simp only [z2, List.set]
       refine tW 7 opAt7 hHeld ?_
       (try simp only [Act.put]); try simp only [z2, List.set]
       refine tW 8 opAt8 hHeld ?_
       (try simp only [Act.put]); try simp only [z2, List.set]
       refine wpAnyH_take (i := 9) (v := .agg z.cells.toArray) opAt9 (by kernel_rfl) (by kernel_rfl) (by kernel_rfl) (fun _ _ _ h => h) (yieldsIf_load_mid (by rfl) 37 _ (by rfl) g (i * 8 + q2 * 8) (by rfl) z.cells _ (fun w hS => hS.2.2) Try.underlying37 rfl info24) hHeld ?_
       (try simp only [Act.put]); try simp only [z2, List.set]
       refine wpAnyH_ready (rs := [10]) (by kernel_rfl) (by simp) ?_
       refine AllReadyH.cons opAt10 (fun K hK => ?_) AllReadyH.nil
       go_simp
       go_at_call 88; refine (eq_call u z bk _ hHeld.1).mono ?_; rintro e w6 ⟨rfl, k5⟩; have K5 := Lib.hid k5; dsimp only
       refine hK.out _ _ ?_ (fun hHeld => ?_)
       ·exact ⟨k5.cell hHeld.1 (fun f => f), fun k v hv => k5.cell (hHeld.2.1 k v hv) (fun f => f), fun k v hv => k5.cell (hHeld.2.2 k v hv) (fun f => f)⟩
       clear hK K
       (try simp only [Act.put]); try simp only [z2, List.set]
       refine tW 11 opAt11 hHeld ?_
       (try simp only [Act.put]); try simp only [z2, List.set]
       refine wpAnyH_done (by kernel_rfl) ?_ _
       rw [hbe]
       go_wp2
       go_roundg (n - (i + k2))
       case measure => have := HG2.out; have := HD.out; omega
       case rel => exact ⟨k, k2 + 1, L1, by have := HD.out; omega, by omega, by have := KK.out; omega, by omega, rfl, by go_num, hl1, own_keptS HO2.out.drew K5.out (fun _ _ f => f), HI.out, TK.out.trans DE2.out.symm, K1.out.drew.trans K5.out (fun _ _ h => h) (fun _ _ f => f.elim)⟩
      ·have hbe : (u.id == z.id) = false := by simp [hd2]
       have hde : ddF L (i + k2 + 1) = ddF L (i + k2) ++ [u] := by
        rw [← HU.out]; exact ddF_keep (.inr (by rw [show i + k2 - 1 = i + q2 by have := HQ2.out; omega, HU.out, HZ.out]; exact hd2))
       have DE2 := Lib.hid hde
       clear hd2 hde
       go_wp2
       refine wp_region_held_drew (S := (fun w' => w'.cell? ⟨bk, 0, none⟩ = some (.func (.func 73) #[] #[]) ∧ w'.rangeAt g (i * 8 + k2 * 8) u.cells ∧ w'.rangeAt g (i * 8 + q2 * 8) z.cells)) (by kernel_rfl) ?_ (fun hHeld => ?_)
       ·exact ⟨hb0, rx, ry⟩
       refine tW 0 opAt0 hHeld ?_
       (try simp only [Act.put]); try simp only [z2, List.set]
       refine tW 1 opAt1 hHeld ?_
       (try simp only [Act.put]); try simp only [z2, List.set]
       refine tW 2 opAt2 hHeld ?_
       (try simp only [Act.put]); try simp only [z2, List.set]
       refine tW 3 opAt3 hHeld ?_
       (try simp only [Act.put]); try simp only [z2, List.set]
       refine wpAnyH_take (i := 4) (v := .agg u.cells.toArray) opAt4 (by kernel_rfl) (by kernel_rfl) (by kernel_rfl) (fun _ _ _ h => h) (yieldsIf_load_mid (by rfl) 37 _ (by rfl) g (i * 8 + k2 * 8) (by rfl) u.cells _ (fun w hS => hS.2.1) Try.underlying37 rfl info24) hHeld ?_
       (try simp only [Act.put]); try simp only [z2, List.set]
       refine tW 5 opAt5 hHeld ?_
       (try simp only [Act.put]); try simp only [z2, List.set]
       refine tW 6 opAt6 hHeld ?_
       (try simp only [Act.put]); try simp only [z2, List.set]
       refine tW 7 opAt7 hHeld ?_
       (try simp only [Act.put]); try simp only [z2, List.set]
       refine tW 8 opAt8 hHeld ?_
       (try simp only [Act.put]); try simp only [z2, List.set]
       refine wpAnyH_take (i := 9) (v := .agg z.cells.toArray) opAt9 (by kernel_rfl) (by kernel_rfl) (by kernel_rfl) (fun _ _ _ h => h) (yieldsIf_load_mid (by rfl) 37 _ (by rfl) g (i * 8 + q2 * 8) (by rfl) z.cells _ (fun w hS => hS.2.2) Try.underlying37 rfl info24) hHeld ?_
       (try simp only [Act.put]); try simp only [z2, List.set]
       refine wpAnyH_ready (rs := [10]) (by kernel_rfl) (by simp) ?_
       refine AllReadyH.cons opAt10 (fun K hK => ?_) AllReadyH.nil
       go_simp
       go_at_call 88; refine (eq_call u z bk _ hHeld.1).mono ?_; rintro e w6 ⟨rfl, k5⟩; have K5 := Lib.hid k5; dsimp only
       refine hK.out _ _ ?_ (fun hHeld => ?_)
       ·exact ⟨k5.cell hHeld.1 (fun f => f), fun k v hv => k5.cell (hHeld.2.1 k v hv) (fun f => f), fun k v hv => k5.cell (hHeld.2.2 k v hv) (fun f => f)⟩
       clear hK K
       (try simp only [Act.put]); try simp only [z2, List.set]
       refine tW 11 opAt11 hHeld ?_
       (try simp only [Act.put]); try simp only [z2, List.set]
       refine wpAnyH_done (by kernel_rfl) ?_ _
       rw [hbe]
       have hkl : k < L1.length := by have := KK.out; have := HD.out; omega
       have HO6 := Lib.hid (own_keptS HO2.out.drew K5.out (fun _ _ f => f))
       have rx2 := own_range HO6.out GX.out
       rw [Nat.add_mul] at rx2
       have FO := Lib.hid (own_set HO6.out u hkl)
       have KF6 := Lib.hid (Kept.setCells (S := fun k => k = g) (fun _ => rfl) u.cells (k * 8) ((K1.out.drew.trans (K5.out.mono (fun _ _ f => f.elim) : Kept (fun k => k = g) _ w6) (fun _ _ h => h) (fun _ _ h => h) : Kept (fun k => k = g) w w6)))
       have f8 : (0 : Int) ≤ (k : Int) := by omega
       have f9 : (k : Int) < (n : Int) := by omega
       go_wp2_with (first | (refine wpList_load_mid (by rfl) 37 _ (by rfl) g (i * 8 + k2 * 8) (by rfl) u.cells _ rx2 Try.underlying37 rfl info24 ?_) | (refine wpList_store_letter (by rfl) 37 _ _ (by rfl) g (k * 8) u.cells.toArray (by rfl) (by rfl) (own_there HO6.out hkl) info24 (cells_all u) ?_; intro W3 hW3; have FOc : Hid (W3.ownsRow base 37 8 (.slice (some ⟨g, 0, none⟩) n cap) n (cellsS (L1.set k u))) := Lib.hid (by rw [hW3]; exact FO.out); have KFc : Hid (Kept (fun k => k = g) w W3) := Lib.hid (by rw [hW3]; exact KF6.out); clear hW3))
       go_roundg (n - (i + k2))
       case measure => have := HG2.out; have := HD.out; omega
       case rel => exact ⟨k + 1, k2 + 1, L1.set k u, by have := HD.out; omega, by omega, by have := KK.out; omega, by omega, by go_num, by go_num, by simpa using hl1, FOc.out, fun t ht => by rw [nth_set _ _ _ _ hkl, if_neg (by omega)]; exact HI.out t (by omega), by rw [take_set_snoc _ hkl, TK.out]; exact DE2.out.symm, KFc.out⟩
     ·have f2 : ¬ (k2 : Int) < (d : Int) := by omega
      obtain ⟨vs, hcl0⟩ := clear_spans wr k HO2.out hl1 (by have := KK.out; have := HD.out; omega)
      obtain ⟨W3, hW3⟩ : ∃ W3, wr.setCells g (k * 8) vs = W3 := ⟨_, rfl⟩
      have hcl : ∀ ty, (Builtin.clear_ #[27] ty #[.slice (some ⟨g, k * 8, none⟩) (n - k) (cap - k)]).run Try.prog wr = .ok (.tuple #[]) W3 := fun ty => by rw [← hW3]; exact hcl0 ty _
      have HF := Lib.hid (show ReadsS W3 (.slice (some ⟨g, 0, none⟩) (ddF L n).length cap) (ddF L n) ∧ (ddF L n).length = k from by
       have hend : ddF L n = L1.take k := by rw [TK.out]; congr 1; have := HD.out; omega
       rw [hend, ← hW3]
       refine ⟨own_reads (own_setL vs (k * 8) HO2.out) (fun j hj => ?_) cap, by rw [List.length_take]; omega⟩
       rw [setL_low _ _ _ _ (by rw [List.length_take] at hj; omega)]
       exact cells_take hj)
      have KF := Lib.hid (show Kept (fun k => k = g) w W3 by rw [← hW3]; exact Kept.setCells (S := fun k => k = g) (fun _ => rfl) vs (k * 8) K1.out)
      have f8 : (0 : Int) ≤ (k : Int) := by omega
      have f9 : (k : Int) ≤ (n : Int) := by omega
      have f10 : (k : Int) ≤ (cap : Int) := by omega
      have f11 : k < cap := by have := KK.out; have := HD.out; omega
      have f12 : (k : Int) < (cap : Int) := by omega
      clear hcl0 hW3
      go_wp2
      go_ret
      have h := HF.out.1
      rw [HF.out.2] at h ⊢
      exact ⟨cap, rfl, h, KF.out⟩
   ·have hbe : (x.id == y.id) = false := by simp [hd]
    have hde : ddF L (i + 1) = L.take (i + 1) := by rw [ddF_keep (.inr (by rw [HQ.out, HX.out, HY.out]; exact hd)), take_snoc (by omega), DD.out]
    have DE := Lib.hid hde
    clear hd hde
    go_wp2
    refine wp_region_held_drew (S := (fun w' => w'.cell? ⟨bk, 0, none⟩ = some (.func (.func 73) #[] #[]) ∧ w'.rangeAt g (i * 8) x.cells ∧ w'.rangeAt g (q * 8) y.cells)) (by kernel_rfl) ?_ (fun hHeld => ?_)
    ·exact ⟨hb0, rx, ry⟩
    refine tW 0 opAt0 hHeld ?_
    (try simp only [Act.put]); try simp only [z2, List.set]
    refine tW 1 opAt1 hHeld ?_
    (try simp only [Act.put]); try simp only [z2, List.set]
    refine tW 2 opAt2 hHeld ?_
    (try simp only [Act.put]); try simp only [z2, List.set]
    refine tW 3 opAt3 hHeld ?_
    (try simp only [Act.put]); try simp only [z2, List.set]
    refine wpAnyH_take (i := 4) (v := .agg x.cells.toArray) opAt4 (by kernel_rfl) (by kernel_rfl) (by kernel_rfl) (fun _ _ _ h => h) (yieldsIf_load_mid (by rfl) 37 _ (by rfl) g (i * 8) (by rfl) x.cells _ (fun w hS => hS.2.1) Try.underlying37 rfl info24) hHeld ?_
    (try simp only [Act.put]); try simp only [z2, List.set]
    refine tW 5 opAt5 hHeld ?_
    (try simp only [Act.put]); try simp only [z2, List.set]
    refine tW 6 opAt6 hHeld ?_
    (try simp only [Act.put]); try simp only [z2, List.set]
    refine tW 7 opAt7 hHeld ?_
    (try simp only [Act.put]); try simp only [z2, List.set]
    refine tW 8 opAt8 hHeld ?_
    (try simp only [Act.put]); try simp only [z2, List.set]
    refine wpAnyH_take (i := 9) (v := .agg y.cells.toArray) opAt9 (by kernel_rfl) (by kernel_rfl) (by kernel_rfl) (fun _ _ _ h => h) (yieldsIf_load_mid (by rfl) 37 _ (by rfl) g (q * 8) (by rfl) y.cells _ (fun w hS => hS.2.2) Try.underlying37 rfl info24) hHeld ?_
    (try simp only [Act.put]); try simp only [z2, List.set]
    refine wpAnyH_ready (rs := [10]) (by kernel_rfl) (by simp) ?_
    refine AllReadyH.cons opAt10 (fun K hK => ?_) AllReadyH.nil
    go_simp
    go_at_call 88; refine (eq_call x y bk _ hHeld.1).mono ?_; rintro e w5 ⟨rfl, k5⟩; have K5 := Lib.hid k5; dsimp only
    refine hK.out _ _ ?_ (fun hHeld => ?_)
    ·exact ⟨k5.cell hHeld.1 (fun f => f), fun k v hv => k5.cell (hHeld.2.1 k v hv) (fun f => f), fun k v hv => k5.cell (hHeld.2.2 k v hv) (fun f => f)⟩
    clear hK K
    (try simp only [Act.put]); try simp only [z2, List.set]
    refine wpAnyH_done (by kernel_rfl) ?_ _
    rw [hbe]
    go_wp2
    go_roundg (n - (i + 1))
    case measure => have := HG.out; omega
    case rel => exact ⟨i + 1, by omega, by omega, by go_num, DE.out, keptFF (KW.out.drew) K5.out⟩
  ·have e2 : ¬ (i : Int) < (n : Int) := by omega
   have hin2 : i = n := by omega
   have IN := Lib.hid hin2
   clear hin2
   go_wp2
   go_ret
   have hdd : ddF L n = L := by rw [← IN.out, DD.out, IN.out, ← hl, List.take_length]
   rw [hdd, hl]
   have h := own_reads (R := L) HO1.out (fun j hj => rfl) cap
   rw [hl] at h
   exact ⟨cap, rfl, h, KW.out.mono (fun _ _ f => f.elim)⟩
end Go.Proofs.Ytibakmchgppndaa
/- Plain laws of what counts: of each ID the first span, rising by ID. Nothing of the program is run here. -/
namespace Go.Proofs.Ytibakmchgppndaa

abbrev Rise (R : List Spn) : Prop := R.Pairwise (fun x y => x.id < y.id)
/-- Of each ID in L the first one, rising. -/
structure Cnt (L R : List Spn) : Prop where
 rise : Rise R
 first : ∀ x ∈ R, (L.filter (fun y => y.id == x.id)).head? = some x
 all : ∀ x ∈ L, ∃ y ∈ R, y.id = x.id
theorem Cnt.mem {L R : List Spn} (h : Cnt L R) {x : Spn} (hx : x ∈ R) : x ∈ L := (List.mem_filter.1 (List.mem_of_mem_head? (h.first x hx))).1
theorem rise_unique : ∀ {R S : List Spn}, Rise R → Rise S → (∀ x, x ∈ R ↔ x ∈ S) → R = S
 | [], [], _, _, _ => rfl
 | [], y :: t, _, _, h => absurd ((h y).2 (by simp)) (by simp)
 | x :: t, [], _, _, h => absurd ((h x).1 (by simp)) (by simp)
 | x :: t, y :: u, h1, h2, h => by
  have a1 := List.pairwise_cons.1 h1
  have a2 := List.pairwise_cons.1 h2
  have exy : x = y := by
   rcases List.mem_cons.1 ((h x).1 (by simp)) with e | e
   ·exact e
   ·rcases List.mem_cons.1 ((h y).2 (by simp)) with f | f
    ·exact f.symm
    ·have := a2.1 x e; have := a1.1 y f; omega
  subst exy
  congr 1
  refine rise_unique a1.2 a2.2 (fun z => ⟨fun hz => ?_, fun hz => ?_⟩)
  ·rcases List.mem_cons.1 ((h z).1 (by simp [hz])) with e | e
   ·subst e; have := a1.1 z hz; omega
   ·exact e
  ·rcases List.mem_cons.1 ((h z).2 (by simp [hz])) with e | e
   ·subst e; have := a2.1 z hz; omega
   ·exact e
theorem Cnt.unique {L R S : List Spn} (h : Cnt L R) (k : Cnt L S) : R = S := by
 have aux : ∀ {R S : List Spn}, Cnt L R → Cnt L S → ∀ x, x ∈ R → x ∈ S := by
  intro R S h k x hx
  obtain ⟨y, hy, e⟩ := k.all x (h.mem hx)
  have h1 := h.first x hx
  have h2 := k.first y hy
  rw [e, h1] at h2
  obtain rfl := Option.some.inj h2
  exact hy
 exact rise_unique h.rise k.rise (fun x => ⟨aux h k x, aux k h x⟩)
theorem Cnt.stab {L M R : List Spn} (h : Cnt M R) (hs : Stab L M) : Cnt L R := by
 refine ⟨h.rise, fun x hx => by rw [← hs]; exact h.first x hx, fun x hx => h.all x (hs.symm.mem hx)⟩
theorem head_first {L : List Spn} {t : Nat} (ht : t < L.length) (h : ∀ s, s < t → (nth L s).id ≠ (nth L t).id) : (L.filter (fun y => y.id == (nth L t).id)).head? = some (nth L t) := by
 have hsplit : L = L.take t ++ nth L t :: L.drop (t + 1) := by
  conv => lhs; rw [← List.take_append_drop t L]
  congr 1
  rw [List.drop_eq_getElem_cons ht]
  congr 1
  have h1 := nth_get ht
  rw [List.getElem?_eq_getElem ht] at h1
  exact Option.some.inj h1
 have hz : (L.take t).filter (fun y => y.id == (nth L t).id) = [] := by
  apply List.filter_eq_nil_iff.2
  intro y hy
  obtain ⟨s, _, h2, rfl⟩ := mem_block (L := L) (p := 0) (e := t) (by omega) (by simpa using hy)
  simpa using h s h2
 generalize hv : nth L t = v at *
 rw [hsplit, List.filter_append, hz]
 simp
/-- What is known of what counts among the first j. -/
structure CntI (L : List Spn) (j : Nat) (R : List Spn) : Prop where
 rise : Rise R
 first : ∀ x ∈ R, ∃ t, t < j ∧ x = nth L t ∧ ∀ s, s < t → (nth L s).id ≠ (nth L t).id
 all : ∀ t, t < j → ∃ x ∈ R, x.id = (nth L t).id
theorem CntI.cnt {L R : List Spn} (h : CntI L L.length R) : Cnt L R := by
 refine ⟨h.rise, fun x hx => ?_, fun x hx => ?_⟩
 ·obtain ⟨t, h1, rfl, h2⟩ := h.first x hx
  exact head_first h1 h2
 ·obtain ⟨i, hi, rfl⟩ := List.getElem_of_mem hx
  obtain ⟨y, hy, e⟩ := h.all i hi
  refine ⟨y, hy, ?_⟩
  rw [e]
  have h2 := nth_get hi
  rw [List.getElem?_eq_getElem hi] at h2
  rw [← Option.some.inj h2]
theorem ddF_cnt {L : List Spn} (hs : SortedOn L 0 L.length) : ∀ j, j ≤ L.length → CntI L j (ddF L j)
 | 0, _ => ⟨List.Pairwise.nil, fun x hx => by simp [ddF] at hx, fun t ht => by omega⟩
 | j + 1, hj => by
  have ih := ddF_cnt hs j (by omega)
  by_cases hk : j = 0 ∨ (nth L j).id ≠ (nth L (j - 1)).id
  ·rw [ddF_keep hk]
   have hlow : ∀ s, s < j → (nth L s).id < (nth L j).id := by
    intro s hsj
    have h1 := hs s (j - 1) (by omega) (by omega) (by omega)
    have h2 := hs (j - 1) j (by omega) (by omega) (by omega)
    rcases hk with hk | hk
    ·omega
    ·omega
   refine ⟨?_, ?_, ?_⟩
   ·rw [Rise, List.pairwise_append]
    refine ⟨ih.rise, by simp, fun x hx y hy => ?_⟩
    obtain ⟨t, h1, rfl, _⟩ := ih.first x hx
    simp at hy; subst hy
    exact hlow t h1
   ·intro x hx
    rcases List.mem_append.1 hx with hx | hx
    ·obtain ⟨t, h1, h2, h3⟩ := ih.first x hx
     exact ⟨t, by omega, h2, h3⟩
    ·simp at hx
     exact ⟨j, by omega, hx, fun s hsj => by have := hlow s hsj; omega⟩
   ·intro t ht
    by_cases c : t = j
    ·subst c; exact ⟨nth L t, by simp, rfl⟩
    ·obtain ⟨x, h1, h2⟩ := ih.all t (by omega)
     exact ⟨x, by simp [h1], h2⟩
  ·have h0 : j ≠ 0 := fun e => hk (.inl e)
   have h1 : (nth L j).id = (nth L (j - 1)).id := Classical.byContradiction fun e => hk (.inr e)
   rw [ddF_skip h0 h1]
   refine ⟨ih.rise, fun x hx => ?_, fun t ht => ?_⟩
   ·obtain ⟨t, h1, h2, h3⟩ := ih.first x hx
    exact ⟨t, by omega, h2, h3⟩
   ·by_cases c : t = j
    ·subst c
     obtain ⟨x, h2, h3⟩ := ih.all (t - 1) (by omega)
     exact ⟨x, h2, h3.trans h1.symm⟩
    ·exact ih.all t (by omega)

/-- One more span: it goes where it belongs, if its ID is new. -/
def insS : List Spn → Spn → List Spn
 | [], s => [s]
 | x :: t, s => if x.id < s.id then x :: insS t s else if x.id = s.id then x :: t else s :: x :: t
theorem insS_sub : ∀ (l : List Spn) (s : Spn) {x : Spn}, x ∈ l → x ∈ insS l s
 | [], _, _, h => by simp at h
 | y :: t, s, x, h => by
  unfold insS
  split
  ·rcases List.mem_cons.1 h with e | e
   ·simp [e]
   ·simp [insS_sub t s e]
  ·split
   ·exact h
   ·simp at h; simp; exact .inr h
theorem insS_has : ∀ (l : List Spn) (s : Spn), ∃ x ∈ insS l s, x.id = s.id
 | [], s => ⟨s, by simp [insS], rfl⟩
 | y :: t, s => by
  unfold insS
  split
  ·obtain ⟨x, h1, h2⟩ := insS_has t s
   exact ⟨x, by simp [h1], h2⟩
  ·split
   ·rename_i e; exact ⟨y, by simp, e⟩
   ·exact ⟨s, by simp, rfl⟩
theorem insS_mem : ∀ (l : List Spn) (s : Spn), Rise l → ∀ x ∈ insS l s, x ∈ l ∨ (x = s ∧ ∀ y ∈ l, y.id ≠ s.id)
 | [], s, _, x, h => by simp [insS] at h; exact .inr ⟨h, by simp⟩
 | y :: t, s, hr, x, h => by
  have a1 := List.pairwise_cons.1 hr
  unfold insS at h
  split at h
  ·rename_i hlt
   rcases List.mem_cons.1 h with e | e
   ·exact .inl (by simp [e])
   ·rcases insS_mem t s a1.2 x e with f | ⟨f, g⟩
    ·exact .inl (by simp [f])
    ·refine .inr ⟨f, fun z hz => ?_⟩
     rcases List.mem_cons.1 hz with e | e
     ·subst e; omega
     ·exact g z e
  ·split at h
   ·exact .inl h
   ·rename_i h1 h2
    rcases List.mem_cons.1 h with e | e
    ·refine .inr ⟨e, fun z hz => ?_⟩
     rcases List.mem_cons.1 hz with f | f
     ·subst f; exact h2
     ·have := a1.1 z f; omega
    ·exact .inl e
theorem insS_rise : ∀ (l : List Spn) (s : Spn), Rise l → Rise (insS l s)
 | [], s, _ => by simp [insS]
 | y :: t, s, hr => by
  have a1 := List.pairwise_cons.1 hr
  unfold insS
  split
  ·rename_i hlt
   refine List.pairwise_cons.2 ⟨fun z hz => ?_, insS_rise t s a1.2⟩
   rcases insS_mem t s a1.2 z hz with f | ⟨f, _⟩
   ·exact a1.1 z f
   ·subst f; exact hlt
  ·split
   ·exact hr
   ·rename_i h1 h2
    refine List.pairwise_cons.2 ⟨fun z hz => ?_, hr⟩
    rcases List.mem_cons.1 hz with f | f
    ·subst f; omega
    ·have := a1.1 z f; omega
/-- The loop's place: what it comes to. -/
theorem insS_at : ∀ (l : List Spn) (s : Spn) (k : Nat), k ≤ l.length → (∀ t, t < k → (nth l t).id < s.id) → (k = l.length ∨ ¬ (nth l k).id < s.id) →
  insS l s = if k = l.length ∨ (nth l k).id ≠ s.id then l.take k ++ s :: l.drop k else l
 | [], s, k, h, _, _ => by obtain rfl : k = 0 := by simpa using h
                           rfl
 | x :: t, s, 0, h, _, h2 => by
  have h3 : ¬ x.id < s.id := by rcases h2 with h2 | h2
                                ·simp at h2
                                ·exact h2
  unfold insS
  rw [if_neg h3]
  by_cases e : x.id = s.id
  ·rw [if_pos e, if_neg (by simp [nth, e])]
  ·rw [if_neg e, if_pos (by simp [nth, e])]; rfl
 | x :: t, s, k + 1, h, h1, h2 => by
  have h3 : x.id < s.id := h1 0 (by omega)
  unfold insS
  rw [if_pos h3, insS_at t s k (by simpa using h) (fun i hi => h1 (i + 1) (by omega)) (by simpa [nth] using h2)]
  have e : (nth (x :: t) (k + 1)) = nth t k := by simp [nth]
  rw [e]
  by_cases c : k = t.length ∨ (nth t k).id ≠ s.id
  ·rw [if_pos c, if_pos (by simpa using c)]; rfl
  ·rw [if_neg c, if_neg (by simpa using c)]
def cntN (L : List Spn) : Nat → List Spn
 | 0 => []
 | j + 1 => insS (cntN L j) (nth L j)
theorem cntN_cnt (L : List Spn) : ∀ j, CntI L j (cntN L j)
 | 0 => ⟨List.Pairwise.nil, fun x hx => by simp [cntN] at hx, fun t ht => by omega⟩
 | j + 1 => by
  have ih := cntN_cnt L j
  refine ⟨insS_rise _ _ ih.rise, fun x hx => ?_, fun t ht => ?_⟩
  ·rcases insS_mem _ _ ih.rise x hx with f | ⟨f, g⟩
   ·obtain ⟨t, h1, h2, h3⟩ := ih.first x f
    exact ⟨t, by omega, h2, h3⟩
   ·refine ⟨j, by omega, f, fun s hs e => ?_⟩
    obtain ⟨y, hy, e2⟩ := ih.all s hs
    exact g y hy (e2.trans e)
  ·by_cases c : t = j
   ·subst c; exact insS_has _ _
   ·obtain ⟨x, h1, h2⟩ := ih.all t (by omega)
    exact ⟨x, insS_sub _ _ h1, h2⟩
theorem cntN_len (L : List Spn) : ∀ j, (cntN L j).length ≤ j
 | 0 => Nat.le_refl _
 | j + 1 => by
  have ih := cntN_len L j
  have : ∀ (l : List Spn) (s : Spn), (insS l s).length ≤ l.length + 1 := by
   intro l s
   induction l with
   | nil => simp [insS]
   | cons x t ih => unfold insS; split <;> (try split) <;> simp <;> omega
  have := this (cntN L j) (nth L j)
  unfold cntN; omega
/-- What counts. -/
def cntF (L : List Spn) : List Spn := cntN L L.length
theorem cntF_len (L : List Spn) : (cntF L).length ≤ L.length := cntN_len _ _
theorem cntF_cnt (L : List Spn) : Cnt L (cntF L) := (cntN_cnt L L.length).cnt
theorem kept_plain {L M : List Spn} (hm : Moved 0 L.length L M) (hs : SortedOn M 0 L.length) : ddF M L.length = cntF L := by
 have h := ddF_cnt (L := M) (by rw [hm.len]; exact hs) M.length (Nat.le_refl _)
 have h2 := h.cnt.stab hm.stab
 rw [hm.len] at h2
 exact h2.unique (cntF_cnt L)
theorem cntF_nil : cntF [] = [] := rfl
end Go.Proofs.Ytibakmchgppndaa
/- trees.kept over spans, by their IDs. -/
namespace Go.Proofs.Ytibakmchgppndaa
open Go.RowKit

theorem cell_new1 (w : World) (u : Value) (t : TypeId) : (w.alloc (.cells #[u] t)).cell? ⟨w.heap.size, 0, none⟩ = some u := by
 simp
theorem run_append_zero {P : Program} (w : World) (t ty e : TypeId) (i : TypeInfo) (ht : P.underlying t = some (.slice e)) (hi : P.info? e = some i) (b xa : Option Addr) (n c c' : Nat) (hnc : n ≤ c) :
  (Builtin.append_ #[t, t] ty #[.slice b n c, .slice xa 0 c']).run P w = .ok (.slice b n c) w := by
 cases b <;> cases xa <;> simp [Builtin.append_, underlying, sizeOf, typeInfo, ht, hi, Builtin.lenOf, hnc, Builtin.firstCells, storeCells, go_sem]
set_option maxHeartbeats 2000000 in
theorem clone_empty (w : World) (ao : Option Addr) (cap : Nat) :
  Calls Try.prog 84 #[.slice ao 0 cap] w fun e w' => ∃ ao' c, e = .returned (.slice ao' 0 c) ∧ Kept (fun _ => False) w w' := by
 obtain ⟨i0, hi, hz0, hz1, hz2⟩ := info_parts inf24
 have q25 : ∀ (w : World) (a : Option Addr) (n c n' c' : Nat), (binOp .eql 27 (.slice a n c) (.slice none n' c')).run Try.prog w = .ok (.bool a.isNone) w := fun w a n c n' c' => Lib.run_eql_slice_nil w _ _ a n c n' c' Try.underlying27
 cases ao with
 | none =>
  go_enter Try.func84, Try.ntmps84
  go_wp2
  go_ret
  exact ⟨_, _, rfl, Kept.refl _ _⟩
 | some a =>
  have HR := Lib.hid (fun (w : World) ty b => run_append_zero (P := Try.prog) w 27 ty 37 i0 Try.underlying27 hi b (some a) 0 0 cap (Nat.le_refl _))
  go_enter Try.func84, Try.ntmps84
  go_wp2_with (at_builtin; refine Lib.wpList_append_run _ rfl _ _ _ _ rfl _ _ rfl rfl _ _ (HR.out _ _ _) ?_)
  go_ret
  exact ⟨_, _, rfl, (Kept.refl (fun _ => False) w).alloc _⟩
set_option maxHeartbeats 2000000 in
theorem insert_empty (w : World) (ao : Option Addr) (cap : Nat) (f : Value) : Calls Try.prog 60 #[.slice ao 0 cap, .int .i64 0, .int .i64 0, f] w fun e w' => e = .returned (.tuple #[]) ∧ w = w' := by
 go_enter Try.func60, Try.ntmps60
 go_wp2
 go_loopg [8] 1 (fun gh t wr => t = .int .i64 1 ∧ w = wr)
 case atStart => exact ⟨by go_num, rfl⟩
 case round =>
  obtain ⟨rfl, rfl⟩ := hrel
  go_wp2
  go_end0
  exact ⟨rfl, rfl⟩
set_option maxHeartbeats 2000000 in
theorem stable_empty (w : World) (ao : Option Addr) (cap : Nat) (f : Value) : Calls Try.prog 92 #[.slice ao 0 cap, .int .i64 0, f] w fun e w' => e = .returned (.tuple #[]) ∧ w = w' := by
 go_enter Try.func92, Try.ntmps92
 go_wp2
 go_loopg [7, 8] 1 (fun gh s t wr => s = .int .i64 0 ∧ t = .int .i64 20 ∧ w = wr)
 case atStart => exact ⟨by go_num, by go_num, rfl⟩
 case round =>
  obtain ⟨rfl, rfl, rfl⟩ := hrel
  go_wp2_with fail
  refine (insert_empty w ao cap f).mono ?_
  rintro e w5 ⟨rfl, rfl⟩
  go_wp2
  go_loopg [6, 7, 8, 9] 1 (fun gh r _ _ _ wr => r = .int .i64 20 ∧ w = wr)
  case atStart => exact ⟨by go_num, rfl⟩
  case round =>
   obtain ⟨rfl, rfl⟩ := hrel
   go_wp2
   go_end0
   exact ⟨rfl, rfl⟩
set_option maxHeartbeats 2000000 in
theorem sort_empty (w : World) (ao : Option Addr) (cap : Nat) (f : Value) : Calls Try.prog 85 #[.slice ao 0 cap, f] w fun e w' => e = .returned (.tuple #[]) ∧ w = w' := by
 go_enter Try.func85, Try.ntmps85
 go_wp2_with fail
 refine (stable_empty w ao cap f).mono ?_
 rintro e w5 ⟨rfl, rfl⟩
 go_wp2
 go_end0
 exact ⟨rfl, rfl⟩
set_option maxHeartbeats 2000000 in
theorem compact_empty (w : World) (ao : Option Addr) (cap : Nat) (f : Value) : Calls Try.prog 87 #[.slice ao 0 cap, f] w fun e w' => e = .returned (.slice ao 0 cap) ∧ w = w' := by
 go_enter Try.func87, Try.ntmps87
 go_wp2
 go_ret
 exact ⟨rfl, rfl⟩

/-- As it lies, in blocks from b on. -/
def ReadsSb (b : Nat) (w : World) (v : Value) (L : List Spn) : Prop :=
 ∃ ao cap, v = .slice ao L.length cap ∧ (L = [] ∨ ∃ g o, ao = some ⟨g, o, none⟩ ∧ b ≤ g ∧ ∀ j u, (cellsS L)[j]? = some u → w.cell? ⟨g, o + j, none⟩ = some u)
theorem ReadsSb.plain {b : Nat} {w : World} {v : Value} {L : List Spn} (h : ReadsSb b w v L) : ReadsS w v L := by
 obtain ⟨ao, cap, e, h⟩ := h
 exact ⟨ao, cap, e, h.imp id (fun ⟨g, o, e, _, c⟩ => ⟨g, o, e, c⟩)⟩
theorem ReadsSb.keptT {b : Nat} {T : Nat → Prop} {w w' : World} {v : Value} {L : List Spn} (h : ReadsSb b w v L) (K : Kept T w w') (hT : ∀ k, T k → k < b) : ReadsSb b w' v L := by
 obtain ⟨ao, cap, e, h⟩ := h
 exact ⟨ao, cap, e, h.imp id (fun ⟨g, o, e, hb, c⟩ => ⟨g, o, e, hb, fun j u hu => K.cell (c j u hu) (fun t => by have := hT _ t; simp only at this; omega)⟩)⟩
set_option maxHeartbeats 4000000 in
theorem kept_any (w : World) (v : Value) (L : List Spn) (h : ReadsS w v L) (hl : L.length ≤ 1000) :
  Calls Try.prog 72 #[v, .func (.func 73) #[] #[]] w fun e w' => ∃ v', e = .returned v' ∧ ReadsSb w.heap.size w' v' (cntF L) ∧ Kept (fun _ => False) w w' := by
 by_cases hne : L = []
 ·subst hne
  obtain ⟨ao, cap, rfl, _⟩ := h
  go_enter Try.func72, Try.ntmps72
  go_wp2_with fail
  refine (clone_empty _ ao cap).mono ?_
  rintro e w5 ⟨ao', c, rfl, k5⟩
  have K5 := Lib.hid (((Kept.refl (fun _ => False) w).alloc _).trans k5 (fun _ _ f => f) (fun _ _ f => f) : Kept (fun _ => False) w w5)
  clear k5
  go_wp2_with fail
  refine (sort_empty w5 ao' c _).mono ?_
  rintro e w6 ⟨rfl, rfl⟩
  go_wp2_with fail
  refine (compact_empty w5 ao' c _).mono ?_
  rintro e w6 ⟨rfl, rfl⟩
  go_wp2
  go_ret
  exact ⟨_, rfl, ⟨ao', c, rfl, .inl rfl⟩, K5.out⟩
 ·have hpos : 0 < L.length := List.length_pos_iff.2 hne
  have HR := Lib.hid h
  clear h hne
  obtain ⟨bk, hbk⟩ : ∃ n, w.heap.size = n := ⟨_, rfl⟩
  obtain ⟨W1, hW1⟩ : ∃ W, w.alloc (.cells #[.func (.func 73) #[] #[]] 131) = W := ⟨_, rfl⟩
  have K1 := Lib.hid (show Kept (fun _ => False) w W1 by rw [← hW1]; exact (Kept.refl _ w).alloc _)
  have C1 := Lib.hid (show W1.cell? ⟨bk, 0, none⟩ = some (.func (.func 73) #[] #[]) by rw [← hW1, ← hbk]; exact cell_new1 _ _ _)
  have S1 := Lib.hid (show bk < W1.heap.size by rw [← hW1, ← hbk]; simp)
  go_enter Try.func72, Try.ntmps72
  go_wp2_with fail
  clear hW1 hbk
  refine (clone_any W1 v L (HR.out.keptF K1.out) hl hpos).mono ?_
  rintro e w5 ⟨v5, rfl, o5, k5⟩
  rcases row_form o5 with ⟨_, h0⟩ | ⟨g, cap, rfl, hcap, hg1, hg2, _⟩
  ·exact absurd h0 (by omega)
  have O5 := Lib.hid o5
  have K5 := Lib.hid k5
  have HN := Lib.hid (show bk ≠ g by have := S1.out; omega)
  have HG := Lib.hid hg1
  have HCP := Lib.hid hcap
  clear o5 k5 hg1 hg2 hcap
  go_wp2_with fail
  refine (tsort_any O5.out rfl hl (K5.out.cell C1.out (fun f => f)) HN.out).mono ?_
  rintro e w6 ⟨rfl, L6, o6, m6, s6, k6⟩
  have O6 := Lib.hid o6; have M6 := Lib.hid m6; have S6 := Lib.hid s6; have K6 := Lib.hid k6
  clear o6 m6 s6 k6
  go_wp2_with fail
  refine (compact_any O6.out M6.out.len hl HCP.out (K6.out.cell (K5.out.cell C1.out (fun f => f)) HN.out) HN.out).mono ?_
  rintro e w7 ⟨c, rfl, r7, k7⟩
  rw [kept_plain M6.out S6.out] at r7 ⊢
  have R7 := Lib.hid r7; have K7 := Lib.hid k7
  clear r7 k7
  go_wp2
  go_ret
  refine ⟨_, rfl, ?_, ?_⟩
  ·obtain ⟨a7, c7, e7, h7⟩ := R7.out
   refine ⟨a7, c7, e7, h7.imp id (fun ⟨g7, o7, e8, c8⟩ => ⟨g7, o7, e8, ?_, c8⟩)⟩
   subst e8
   cases e7
   have h8 := K1.out.size
   have h9 := HG.out
   omega
  have h1 := K1.out.trans K5.out (fun _ _ f => f) (fun _ _ f => f) (T := fun _ => False)
  have h2 := K6.out.trans K7.out (fun _ _ h => h) (fun _ _ h => h) (T := fun k => k = g)
  have hsz := K1.out.size
  exact h1.trans h2 (fun _ _ f => f) (fun i hi e => by have := HG.out; omega)
end Go.Proofs.Ytibakmchgppndaa
/- slices.BinarySearchFunc over spans by ID; (*wood).place. -/
namespace Go.Proofs.Ytibakmchgppndaa
open Go.RowKit

theorem ReadsS.range {w : World} {R : List Spn} {g o : Nat} (hc : ∀ j u, (cellsS R)[j]? = some u → w.cell? ⟨g, o + j, none⟩ = some u) {i : Nat} {m : Spn} (hm : R[i]? = some m) : w.rangeAt g (o + i * 8) m.cells := by
 intro j u hj
 have hl : j < 8 := by have := (List.getElem?_eq_some_iff.1 hj).1; simpa [Spn.cells] using this
 have := hc _ u ((cellsS_at R i m hm j hl).trans hj)
 rwa [← Nat.add_assoc] at this
theorem rise_nth {R : List Spn} (h : Rise R) {i j : Nat} (hij : i < j) (hj : j < R.length) : (nth R i).id < (nth R j).id := by
 have h1 := List.pairwise_iff_getElem.1 h i j (by omega) hj hij
 have e1 := nth_get (l := R) (k := i) (by omega)
 have e2 := nth_get hj
 rw [List.getElem?_eq_getElem (by omega)] at e1
 rw [List.getElem?_eq_getElem hj] at e2
 rw [← Option.some.inj e1, ← Option.some.inj e2]; exact h1
theorem idcmp_any (x : Spn) (n : Int) (w : World) :
  Calls Try.prog 90 #[.agg x.cells.toArray, .int .i64 n] w fun e w' => e = .returned (.int .i64 (cmpI x.id n)) ∧ Kept (fun _ => False) w w' := by
 show Calls Try.prog 90 #[.agg #[.int .i64 x.tr, .int .i64 x.id, .int .i64 x.pa, .string x.se, .string x.ho, .int .i64 x.st, .int .i64 x.du, .string x.no], .int .i64 n] w _
 go_enter Try.func90, Try.ntmps90
 go_wp2_with (go_at_call 33; refine (cmp_int _ _ _).mono ?_; rintro e w' ⟨rfl, rfl⟩)
 go_ret
 exact ⟨rfl, (Kept.refl _ w).alloc _⟩
/-- The place of an ID: how many are less, and whether the next one has it. -/
structure Found (R : List Spn) (n : Int) (k : Nat) : Prop where
 le : k ≤ R.length
 lo : ∀ t, t < k → (nth R t).id < n
 hi : ∀ t, k ≤ t → t < R.length → n ≤ (nth R t).id
set_option maxHeartbeats 4000000 in
set_option maxRecDepth 100000 in
theorem search_any (w : World) (v : Value) (R : List Spn) (n : Int) (h : ReadsS w v R) (hl : R.length ≤ 1000) (hr : Rise R) :
  Calls Try.prog 89 #[v, .int .i64 n, .func (.func 90) #[] #[]] w fun e w' => ∃ k, Found R n k ∧ e = .returned (.tuple #[.int .i64 k, .bool (decide (k < R.length ∧ (nth R k).id = n))]) ∧ Kept (fun _ => False) w w' := by
 obtain ⟨ao, cap, rfl, h⟩ := h
 by_cases hne : R = []
 ·subst hne
  have D := Lib.hid (show Found [] n 0 from ⟨Nat.le_refl _, fun t h => by omega, fun t _ h => by simp at h⟩)
  go_enter Try.func89, Try.ntmps89
  go_wp2
  go_loopg [9, 10] 1 (fun gh s t wr => s = .int .i64 0 ∧ t = .int .i64 0 ∧ Kept (fun _ => False) w wr)
  case atStart => exact ⟨by go_num, by go_num, Kept.refl _ _⟩
  case round =>
   obtain ⟨rfl, rfl, kw⟩ := hrel
   have KW := Lib.hid kw; clear kw
   go_wp2
   refine bodyPost_ret (v := _) (by simp [results, Try.results89, go_sem]; try rfl) rfl ?_
   exact ⟨0, D.out, by simp, KW.out⟩
 ·obtain ⟨g, o, rfl, hc⟩ : ∃ g o, ao = some ⟨g, o, none⟩ ∧ ∀ j u, (cellsS R)[j]? = some u → w.cell? ⟨g, o + j, none⟩ = some u := by
   rcases h with h | h
   ·exact absurd h hne
   ·exact h
  have HC := Lib.hid hc; have HR := Lib.hid hr
  obtain ⟨len, hlen⟩ : ∃ n, R.length = n := ⟨_, rfl⟩
  have HL := Lib.hid hlen
  have hpos : 0 < len := by rw [← hlen]; exact List.length_pos_iff.2 hne
  rw [hlen] at hl ⊢
  clear h hc hr hne hlen
  go_enter Try.func89, Try.ntmps89
  go_wp2
  go_loopg [9, 10] len (fun gh s t wr => ∃ (i j : Nat), i + gh = j ∧ j ≤ len ∧ s = .int .i64 i ∧ t = .int .i64 j ∧ (∀ k, k < i → (nth R k).id < n) ∧ (∀ k, j ≤ k → k < len → n ≤ (nth R k).id) ∧ Kept (fun _ => False) w wr)
  case atStart => exact ⟨0, len, by omega, Nat.le_refl _, by go_num, rfl, fun k h => by omega, fun k h1 h2 => by omega, Kept.refl _ _⟩
  case round =>
   obtain ⟨i, j, hg, hj, rfl, rfl, lo, hi, kw⟩ := hrel
   have HG := Lib.hid hg; have LO := Lib.hid lo; have HI := Lib.hid hi; have KW := Lib.hid kw
   clear hg lo hi kw
   by_cases hij : i < j
   ·have i0 : (i : Int) < (j : Int) := by omega
    obtain ⟨u, hu⟩ : ∃ u, i + j = u := ⟨_, rfl⟩
    have e2 : IntKind.i64.wrap ((i : Int) + (j : Int)) = (u : Int) := by rw [show (i : Int) + (j : Int) = (u : Int) by omega]; exact IntWalk.i64_in _ (by omega)
    obtain ⟨q, hq⟩ : ∃ q, u / 2 = q := ⟨_, rfl⟩
    have hul : u ≤ 2000 := by omega
    have e3 : (u : Int) / 2 = (q : Int) := by omega
    have hb1 : i ≤ q := by omega
    have hb2 : q < j := by omega
    clear hu hq
    obtain ⟨y, hy⟩ : ∃ y, nth R q = y := ⟨_, rfl⟩
    have gy := nth_get (l := R) (k := q) (by have := HL.out; omega)
    rw [hy] at gy
    have HY := Lib.hid hy
    have ry := ReadsS.range (fun j u hu => KW.out.cell (HC.out j u hu) (fun f => f)) gy
    have i1 : (0 : Int) ≤ (q : Int) := by omega
    have i2 : (q : Int) < (len : Int) := by omega
    clear hy gy
    by_cases hlt : y.id < n
    ·have ec : cmpI y.id n < 0 := by unfold cmpI; rw [if_pos hlt]; omega
     have ed : decide (cmpI y.id n < 0) = true := by simp [ec]
     go_wp2_with (first | (refine wpList_load_mid (by rfl) 37 _ (by rfl) g (o + q * 8) (by rfl) y.cells _ ry Try.underlying37 rfl info24 ?_) | (go_at_call 90; refine (idcmp_any y n _).mono ?_; rintro e w5 ⟨rfl, k5⟩; have K5 := Lib.hid k5; clear k5))
     go_roundg (j - (q + 1))
     case measure => have := HG.out; omega
     case rel => exact ⟨q + 1, j, by omega, hj, by go_num, rfl, fun k k1 => by 
      by_cases c : k = q
      ·subst c; rw [HY.out]; exact hlt
      ·have := rise_nth HR.out (i := k) (j := q) (by omega) (by have := HL.out; omega); rw [HY.out] at this; omega, HI.out, keptFF KW.out K5.out⟩
    ·have ec : ¬ cmpI y.id n < 0 := by unfold cmpI; rw [if_neg hlt]; split <;> omega
     have ed : decide (cmpI y.id n < 0) = false := by simp; omega
     go_wp2_with (first | (refine wpList_load_mid (by rfl) 37 _ (by rfl) g (o + q * 8) (by rfl) y.cells _ ry Try.underlying37 rfl info24 ?_) | (go_at_call 90; refine (idcmp_any y n _).mono ?_; rintro e w5 ⟨rfl, k5⟩; have K5 := Lib.hid k5; clear k5))
     go_roundg (q - i)
     case measure => have := HG.out; omega
     case rel => exact ⟨i, q, by omega, by omega, rfl, rfl, LO.out, fun k k1 k2 => by
      by_cases c : k = q
      ·subst c; rw [HY.out]; omega
      ·have := rise_nth HR.out (i := q) (j := k) (by omega) (by have := HL.out; omega); rw [HY.out] at this; omega, keptFF KW.out K5.out⟩
   ·have i0 : ¬ (i : Int) < (j : Int) := by omega
    have FD := Lib.hid (show Found R n i from ⟨by have := HL.out; have := HG.out; omega, LO.out, fun t t1 t2 => HI.out t (by have := HG.out; omega) (by have := HL.out; omega)⟩)
    by_cases hin : i < len
    ·have i1 : (i : Int) < (len : Int) := by omega
     have i2 : (0 : Int) ≤ (i : Int) := by omega
     have d1 : decide ((i : Int) < (len : Int)) = true := by simp [hin]
     obtain ⟨y, hy⟩ : ∃ y, nth R i = y := ⟨_, rfl⟩
     have gy := nth_get (l := R) (k := i) (by have := HL.out; omega)
     rw [hy] at gy
     obtain ⟨c0, c1, c2, c3, c4, c5, c6, c7⟩ := ReadsS.at (fun j u hu => KW.out.cell (HC.out j u hu) (fun f => f)) gy
     have HY := Lib.hid hy
     clear hy gy
     go_wp2_with (go_at_call 90; refine (idcmp_any y n _).mono ?_; rintro e w5 ⟨rfl, k5⟩; have K5 := Lib.hid k5; clear k5)
     refine bodyPost_ret (v := _) (by simp [results, Try.results89, go_sem]; try rfl) rfl ?_
     refine ⟨i, FD.out, ?_, keptFF KW.out K5.out⟩
     have hcz : cmpI y.id n = 0 ↔ y.id = n := by unfold cmpI; split <;> (try split) <;> omega
     by_cases hz : y.id = n
     ·have h0 := hcz.2 hz
      rw [hz] at h0
      simp [HY.out, hin, h0, hz]
     ·have h0 : (cmpI y.id n == 0) = false := by simpa using fun e => hz (hcz.1 e)
      simp [HY.out, hin, h0, hz]
    ·have i1 : ¬ (i : Int) < (len : Int) := by omega
     have d1 : decide ((i : Int) < (len : Int)) = false := by simp; omega
     go_wp2
     refine bodyPost_ret (v := _) (by simp [results, Try.results89, go_sem]; try rfl) rfl ?_
     exact ⟨i, FD.out, by simp [hin], KW.out⟩
/-- The place of an ID, if one has it. -/
def plF (R : List Spn) (n : Int) : Option Nat := if n = 0 then none else R.findIdx? (fun x => x.id == n)
def pInt : Option Nat → Int
 | none => -1
 | some k => k
theorem plF_zero (R : List Spn) : plF R 0 = none := rfl
theorem plF_some {R : List Spn} {n : Int} {k : Nat} (hr : Rise R) (hn : n ≠ 0) (hk : k < R.length) (h : (nth R k).id = n) : plF R n = some k := by
 unfold plF
 rw [if_neg hn, List.findIdx?_eq_some_iff_getElem]
 have e : ∀ i (hi : i < R.length), R[i] = nth R i := fun i hi => by
  have h2 := nth_get hi
  rw [List.getElem?_eq_getElem hi] at h2
  exact Option.some.inj h2
 refine ⟨hk, by rw [e]; simpa using h, fun j hj => ?_⟩
 rw [e]
 have := rise_nth hr hj hk
 simp; omega
theorem plF_none {R : List Spn} {n : Int} (h : ∀ k, k < R.length → (nth R k).id ≠ n) : plF R n = none := by
 unfold plF
 split
 ·rfl
 ·rw [List.findIdx?_eq_none_iff]
  intro x hx
  obtain ⟨i, hi, rfl⟩ := List.getElem_of_mem hx
  have h2 := nth_get hi
  rw [List.getElem?_eq_getElem hi] at h2
  have := h i hi
  rw [← Option.some.inj h2] at this
  simpa using this
theorem plF_spec {R : List Spn} {n : Int} {k : Nat} (h : plF R n = some k) : k < R.length ∧ (nth R k).id = n ∧ n ≠ 0 := by
 unfold plF at h
 split at h
 ·cases h
 ·rename_i hn
  rw [List.findIdx?_eq_some_iff_getElem] at h
  obtain ⟨hk, h1, _⟩ := h
  have h2 := nth_get hk
  rw [List.getElem?_eq_getElem hk] at h2
  refine ⟨hk, ?_, hn⟩
  rw [← Option.some.inj h2]; simpa using h1
theorem Found.place {R : List Spn} {n : Int} {k : Nat} (h : Found R n k) (hr : Rise R) : plF R n = if k < R.length ∧ (nth R k).id = n ∧ n ≠ 0 then some k else none := by
 by_cases hn : n = 0
 ·subst hn; rw [if_neg (by simp)]; rfl
 ·by_cases hc : k < R.length ∧ (nth R k).id = n
  ·rw [if_pos ⟨hc.1, hc.2, hn⟩]; exact plF_some hr hn hc.1 hc.2
  ·rw [if_neg (fun x => hc ⟨x.1, x.2.1⟩)]
   refine plF_none (fun t ht e => ?_)
   by_cases c1 : t < k
   ·have := h.lo t c1; omega
   ·by_cases c2 : t = k
    ·subst c2; exact hc ⟨ht, e⟩
    ·have h1 := h.hi k (Nat.le_refl _) (by omega)
     have h2 := rise_nth hr (i := k) (j := t) (by omega) ht
     omega
set_option maxHeartbeats 4000000 in
theorem place_any (w : World) (wb : Nat) (v : Value) (R : List Spn) (n : Int) (hb : w.cell? ⟨wb, 0, none⟩ = some v) (h : ReadsS w v R) (hl : R.length ≤ 1000) (hr : Rise R) :
  Calls Try.prog 74 #[.pointer (some ⟨wb, 0, none⟩), .int .i64 n] w fun e w' => e = .returned (.int .i64 (pInt (plF R n))) ∧ Kept (fun _ => False) w w' := by
 have HR := Lib.hid h; have RI := Lib.hid hr
 clear h hr
 go_enter Try.func74, Try.ntmps74
 go_wp2_with fail
 refine (search_any _ v R n HR.out hl RI.out).mono ?_
 rintro e w5 ⟨k, fd, rfl, k5⟩
 have K5 := Lib.hid k5; have PL := Lib.hid (fd.place RI.out)
 clear k5 fd
 by_cases hc : k < R.length ∧ (nth R k).id = n
 ·have hd : decide (k < R.length ∧ (nth R k).id = n) = true := decide_eq_true hc
  rw [hd]
  by_cases hn : n = 0
  ·have hq : (n == 0) = true := by simp [hn]
   have HE := Lib.hid (show plF R n = none by rw [PL.out, if_neg (by simp [hn])])
   clear hc hd hn
   go_wp2
   go_ret
   rw [HE.out]
   exact ⟨rfl, K5.out⟩
  ·have hq : (n == 0) = false := by simp [hn]
   have HE := Lib.hid (show plF R n = some k by rw [PL.out, if_pos ⟨hc.1, hc.2, hn⟩])
   clear hc hd hn
   go_wp2
   go_ret
   rw [HE.out]
   exact ⟨rfl, K5.out⟩
 ·have hd : decide (k < R.length ∧ (nth R k).id = n) = false := decide_eq_false hc
  rw [hd]
  have HE := Lib.hid (show plF R n = none by rw [PL.out, if_neg (fun x => hc ⟨x.1, x.2.1⟩)])
  clear hc hd
  go_wp2
  go_ret
  rw [HE.out]
  exact ⟨rfl, K5.out⟩
end Go.Proofs.Ytibakmchgppndaa
/- Plain laws of going from parent to parent: cycles, the least of each, and how a walk finds it. Nothing of the program is run here. -/
namespace Go.Proofs.Ytibakmchgppndaa

section
variable (p : Nat → Option Nat)
def it : Nat → Nat → Option Nat
 | 0, x => some x
 | t + 1, x => (it t x).bind p
def OnCyc (x : Nat) : Prop := ∃ t, 0 < t ∧ it p t x = some x
/-- The least of a cycle. -/
def Least (x : Nat) : Prop := OnCyc p x ∧ ∀ s y, it p s x = some y → x ≤ y
end
section
variable {p : Nat → Option Nat}
theorem it_add (s : Nat) : ∀ (t x : Nat), it p (s + t) x = (it p s x).bind (it p t)
 | 0, x => by cases h : it p s x <;> simp [it]
 | t + 1, x => by
  rw [← Nat.add_assoc, it, it_add s t x]
  cases h : it p s x <;> simp [it]
theorem it_add' {s t x y : Nat} (h : it p s x = some y) : it p (s + t) x = it p t y := by rw [it_add, h]; rfl
theorem it_none {s x : Nat} (h : it p s x = none) {t : Nat} (ht : s ≤ t) : it p t x = none := by
 obtain ⟨r, rfl⟩ := Nat.exists_eq_add_of_le ht
 rw [it_add, h]; rfl
theorem it_some {s t x y : Nat} (h : it p t x = some y) (hs : s ≤ t) : ∃ z, it p s x = some z := by
 cases hz : it p s x with
 | none => rw [it_none hz hs] at h; cases h
 | some z => exact ⟨z, rfl⟩
theorem it_lt {n : Nat} (hp : ∀ x y, x < n → p x = some y → y < n) {x : Nat} (hx : x < n) : ∀ {t y : Nat}, it p t x = some y → y < n
 | 0, y, h => by simp [it] at h; omega
 | t + 1, y, h => by
  simp only [it, Option.bind_eq_some_iff] at h
  obtain ⟨z, h1, h2⟩ := h
  exact hp z y (it_lt hp hx h1) h2
theorem it_mul {c x : Nat} (h : it p c x = some x) : ∀ k, it p (c * k) x = some x
 | 0 => rfl
 | k + 1 => by rw [Nat.mul_succ, it_add' (it_mul h k)]; exact h
theorem cyc_back {x y s : Nat} (hc : OnCyc p x) (h : it p s x = some y) : ∃ r, it p r y = some x := by
 obtain ⟨c, h0, h1⟩ := hc
 have h2 := it_mul h1 s
 have h3 : s ≤ c * s := Nat.le_mul_of_pos_left s h0
 refine ⟨c * s - s, ?_⟩
 rw [← it_add' h, show s + (c * s - s) = c * s by omega]; exact h2
theorem cyc_some {x : Nat} (hc : OnCyc p x) (t : Nat) : ∃ y, it p t x = some y := by
 obtain ⟨c, h0, h1⟩ := hc
 exact it_some (it_mul h1 t) (Nat.le_mul_of_pos_left t h0)
theorem cyc_along {x y s : Nat} (hc : OnCyc p x) (h : it p s x = some y) : OnCyc p y := by
 obtain ⟨r, hr⟩ := cyc_back hc h
 obtain ⟨c, h0, h1⟩ := hc
 refine ⟨r + c + s, by omega, ?_⟩
 rw [Nat.add_assoc, it_add' hr, it_add' h1]; exact h
theorem nodup_len : ∀ (n : Nat) (l : List Nat), l.Nodup → (∀ x ∈ l, x < n) → l.length ≤ n
 | 0, l, _, h => by
  cases l with
  | nil => simp
  | cons x t => exact absurd (h x (by simp)) (by omega)
 | n + 1, l, hd, h => by
  have h1 := nodup_len n (l.filter (fun x => x != n)) (hd.filter _) (fun x hx => by
   obtain ⟨a, b⟩ := List.mem_filter.1 hx
   have := h x a; have : x ≠ n := by simpa using b
   omega)
  have h2 : l.length ≤ (l.filter (fun x => x != n)).length + 1 := by
   clear h1 h
   induction l with
   | nil => simp
   | cons x t ih =>
    have hd' := List.nodup_cons.1 hd
    by_cases e : x = n
    ·subst e
     have : t.filter (fun y => y != x) = t := List.filter_eq_self.2 (fun y hy => by
      have : y ≠ x := fun e => hd'.1 (e ▸ hy)
      simpa using this)
     simp [this]
    ·have := ih hd'.2
     simp [e]; omega
  omega
theorem inj_le {n t : Nat} (f : Nat → Nat) (hf : ∀ s, s < t → f s < n) (hi : ∀ s s', s < s' → s' < t → f s ≠ f s') : t ≤ n := by
 have h := nodup_len n ((List.range t).map f) (by
  rw [List.nodup_iff_pairwise_ne, List.pairwise_map, List.pairwise_iff_getElem]
  intro i j hi' hj' hij
  simp at hi' hj' ⊢
  exact hi i j hij hj') (fun x hx => by
   obtain ⟨s, hs, rfl⟩ := List.mem_map.1 hx
   exact hf s (by simpa using hs))
 simpa using h
/-- A cycle is no longer than there are places. -/
theorem cyc_short {n x : Nat} (hp : ∀ x y, x < n → p x = some y → y < n) (hx : x < n) (hc : OnCyc p x) : ∃ c, 0 < c ∧ c ≤ n ∧ it p c x = some x := by
 have hex : ∃ c, 0 < c ∧ it p c x = some x := hc
 have hmin : ∃ c, (0 < c ∧ it p c x = some x) ∧ ∀ c', c' < c → ¬ (0 < c' ∧ it p c' x = some x) := by
  obtain ⟨c, h⟩ := hex
  induction c using Nat.strongRecOn with
  | _ c ih =>
   by_cases hx : ∃ c', c' < c ∧ (0 < c' ∧ it p c' x = some x)
   ·obtain ⟨c', a, b⟩ := hx; exact ih c' a b
   ·exact ⟨c, h, fun c' a b => hx ⟨c', a, b⟩⟩
 obtain ⟨c, ⟨h0, h1⟩, hm⟩ := hmin
 refine ⟨c, h0, ?_, h1⟩
 have hs : ∀ s, ∃ y, it p s x = some y := cyc_some hc
 refine inj_le (fun s => (it p s x).getD 0) (fun s _ => ?_) (fun s s' h2 h3 e => ?_)
 ·obtain ⟨y, hy⟩ := hs s
  simp only [hy, Option.getD_some]; exact it_lt hp hx hy
 ·obtain ⟨y, hy⟩ := hs s
  obtain ⟨z, hz⟩ := hs s'
  simp only [hy, hz, Option.getD_some] at e
  subst e
  refine hm (s + (c - s')) (by omega) ⟨by omega, ?_⟩
  rw [it_add' hy, ← it_add' hz, show s' + (c - s') = c by omega]; exact h1

/-- What a walk from parent to parent has seen, and who is a head. -/
structure Seen (p : Nat → Option Nat) (n : Nat) (lost : Nat → Bool) (i : Nat) (sn : Nat → Nat) (h : Nat → Bool) : Prop where
 closed : ∀ x, x < n → sn x ≠ 0 → ∀ y, p x = some y → sn y ≠ 0
 upto : ∀ x, x < i → x < n → sn x ≠ 0
 le : ∀ x, x < n → sn x ≤ i
 seen : ∀ x, x < n → sn x ≠ 0 → (h x = true ↔ lost x = true ∨ Least p x)
 rest : ∀ x, x < n → sn x = 0 → h x = lost x
structure Wlk (p : Nat → Option Nat) (n i : Nat) (sn0 sn : Nat → Nat) (t : Nat) : Prop where
 each : ∀ s, s < t → ∃ y, it p s i = some y ∧ sn0 y = 0
 inj : ∀ s s', s < s' → s' < t → it p s i ≠ it p s' i
 on : ∀ s, s < t → ∀ y, it p s i = some y → sn y = i + 1
 off : ∀ x, x < n → (∀ s, s < t → it p s i ≠ some x) → sn x = sn0 x
theorem Wlk.start (p : Nat → Option Nat) (n i : Nat) (sn : Nat → Nat) : Wlk p n i sn sn 0 := ⟨fun _ h => by omega, fun _ _ _ h => by omega, fun _ h => by omega, fun _ _ _ => rfl⟩
theorem Wlk.step {n i t : Nat} {sn0 sn sn' : Nat → Nat} (h : Wlk p n i sn0 sn t) {x : Nat} (hx : it p t i = some x) (hxn : x < n) (h0 : sn x = 0) (h1 : sn' x = i + 1) (h2 : ∀ y, y < n → y ≠ x → sn' y = sn y) (hp : ∀ x y, x < n → p x = some y → y < n) (hi : i < n) : Wlk p n i sn0 sn' (t + 1) := by
 have hnew : ∀ s, s < t → it p s i ≠ some x := fun s hs e => by have := h.on s hs x e; omega
 refine ⟨fun s hs => ?_, fun s s' a b => ?_, fun s hs y hy => ?_, fun y hy ho => ?_⟩
 ·by_cases c : s = t
  ·subst c; exact ⟨x, hx, by rw [← h.off x hxn hnew]; exact h0⟩
  ·exact h.each s (by omega)
 ·by_cases c : s' = t
  ·subst c; rw [hx]; exact hnew s a
  ·exact h.inj s s' a (by omega)
 ·by_cases c : s = t
  ·subst c; rw [hx] at hy; cases hy; exact h1
  ·have hne : y ≠ x := fun e => hnew s (by omega) (e ▸ hy)
   rw [h2 y (it_lt hp hi hy) hne]; exact h.on s (by omega) y hy
 ·have hne : y ≠ x := fun e => ho t (by omega) (e ▸ hx)
  rw [h2 y hy hne]; exact h.off y hy (fun s hs => ho s (by omega))
theorem Wlk.short {n i t : Nat} {sn0 sn : Nat → Nat} (h : Wlk p n i sn0 sn t) (hp : ∀ x y, x < n → p x = some y → y < n) (hi : i < n) : t ≤ n := by
 refine inj_le (fun s => (it p s i).getD 0) (fun s hs => ?_) (fun s s' a b e => ?_)
 ·obtain ⟨y, hy, _⟩ := h.each s hs
  simp only [hy, Option.getD_some]; exact it_lt hp hi hy
 ·obtain ⟨y, hy, _⟩ := h.each s (by omega)
  obtain ⟨z, hz, _⟩ := h.each s' b
  simp only [hy, hz, Option.getD_some] at e
  exact h.inj s s' a b (by rw [hy, hz, e])
/-- The walk ended outside of itself: nothing on it is on a cycle. -/
theorem Seen.plain {n i t : Nat} {lost : Nat → Bool} {sn0 sn : Nat → Nat} {h : Nat → Bool} (hs : Seen p n lost i sn0 h) (hw : Wlk p n i sn0 sn t) (hp : ∀ x y, x < n → p x = some y → y < n) (hi : i < n)
  (he : it p t i = none ∨ ∃ x, it p t i = some x ∧ sn0 x ≠ 0) : Seen p n lost (i + 1) sn h := by
 have hat : ∀ x, x < n → (∃ s, s < t ∧ it p s i = some x) ∨ (∀ s, s < t → it p s i ≠ some x) := fun x _ => by
  by_cases c : ∃ s, s < t ∧ it p s i = some x
  ·exact .inl c
  ·exact .inr (fun s a b => c ⟨s, a, b⟩)
 have hnc : ∀ s, s < t → ∀ y, it p s i = some y → ¬ OnCyc p y := by
  intro s hst y hy hc
  rcases he with he | ⟨x, he, hx⟩
  ·obtain ⟨z, hz⟩ := cyc_some hc (t - s)
   rw [← it_add' hy, show s + (t - s) = t by omega, he] at hz
   cases hz
  ·have h1 : it p (t - s) y = some x := by rw [← it_add' hy, show s + (t - s) = t by omega]; exact he
   obtain ⟨r, hr⟩ := cyc_back hc h1
   have hcl : ∀ r z, it p r x = some z → sn0 z ≠ 0 := by
    intro r
    induction r with
    | zero => intro z hz; simp [it] at hz; exact hz ▸ hx
    | succ r ih =>
     intro z hz
     simp only [it, Option.bind_eq_some_iff] at hz
     obtain ⟨u, h2, h3⟩ := hz
     exact hs.closed u (it_lt hp (it_lt hp hi he) h2) (ih u h2) z h3
   obtain ⟨y', hy', h0⟩ := hw.each s hst
   rw [hy] at hy'; cases hy'
   exact hcl r y hr h0
 refine ⟨fun x hx h0 y hy => ?_, fun x hx hxn => ?_, fun x hx => ?_, fun x hx h0 => ?_, fun x hx h0 => ?_⟩
 ·rcases hat x hx with ⟨s, a, b⟩ | ho
  ·have hn : it p (s + 1) i = some y := by simp only [it, b]; exact hy
   by_cases c : s + 1 < t
   ·rw [hw.on _ c y hn]; omega
   ·have c2 : s + 1 = t := by omega
    rw [c2] at hn
    rcases he with he | ⟨z, he, hz⟩
    ·rw [he] at hn; cases hn
    ·rw [he] at hn; cases hn
     rcases hat y (hp x y hx hy) with ⟨s', a', b'⟩ | ho'
     ·rw [hw.on s' a' y b']; omega
     ·rw [hw.off y (hp x y hx hy) ho']; exact hz
  ·rw [hw.off x hx ho] at h0
   have h1 := hs.closed x hx h0 y hy
   rcases hat y (hp x y hx hy) with ⟨s', a', b'⟩ | ho'
   ·rw [hw.on s' a' y b']; omega
   ·rw [hw.off y (hp x y hx hy) ho']; exact h1
 ·rcases hat x hxn with ⟨s', a', b'⟩ | ho'
  ·rw [hw.on s' a' x b']; omega
  ·rw [hw.off x hxn ho']
   by_cases c : x = i
   ·subst c
    by_cases ct : t = 0
    ·subst ct
     rcases he with he | ⟨z, he, hz⟩
     ·simp [it] at he
     ·simp [it] at he; rw [he]; exact hz
    ·exact absurd rfl (ho' 0 (by omega))
   ·exact hs.upto x (by omega) hxn
 ·rcases hat x hx with ⟨s', a', b'⟩ | ho'
  ·rw [hw.on s' a' x b']; omega
  ·rw [hw.off x hx ho']; have := hs.le x hx; omega
 ·rcases hat x hx with ⟨s', a', b'⟩ | ho'
  ·obtain ⟨y, hy, hy0⟩ := hw.each s' a'
   rw [b'] at hy; cases hy
   rw [hs.rest x hx hy0]
   exact ⟨fun e => .inl e, fun e => e.elim id (fun l => absurd l.1 (hnc s' a' x b'))⟩
  ·rw [hw.off x hx ho'] at h0
   exact hs.seen x hx h0
 ·rcases hat x hx with ⟨s', a', b'⟩ | ho'
  ·rw [hw.on s' a' x b'] at h0; omega
  ·rw [hw.off x hx ho'] at h0; exact hs.rest x hx h0
/-- The walk ended in itself: the least of the cycle is a head. -/
theorem Seen.cycle {n i t x l : Nat} {lost : Nat → Bool} {sn0 sn : Nat → Nat} {h h' : Nat → Bool} (hs : Seen p n lost i sn0 h) (hw : Wlk p n i sn0 sn t) (hp : ∀ x y, x < n → p x = some y → y < n) (hi : i < n)
  (hlost : ∀ x, lost x = true → p x = none) (he : it p t i = some x) (hx : sn x = i + 1) (hl : ∃ r, it p r x = some l) (hmin : ∀ r y, it p r x = some y → l ≤ y) (h1 : h' l = true) (h2 : ∀ y, y < n → y ≠ l → h' y = h y) : Seen p n lost (i + 1) sn h' := by
 have hxn : x < n := it_lt hp hi he
 have hat : ∀ x, x < n → (∃ s, s < t ∧ it p s i = some x) ∨ (∀ s, s < t → it p s i ≠ some x) := fun x _ => by
  by_cases c : ∃ s, s < t ∧ it p s i = some x
  ·exact .inl c
  ·exact .inr (fun s a b => c ⟨s, a, b⟩)
 obtain ⟨s0, hs0, hx0⟩ : ∃ s, s < t ∧ it p s i = some x := by
  rcases hat x hxn with h | h
  ·exact h
  ·rw [hw.off x hxn h] at hx; have := hs.le x hxn; omega
 have orb : ∀ r, ∃ s', s0 ≤ s' ∧ s' < t ∧ it p r x = it p s' i := by
  intro r
  induction r with
  | zero => exact ⟨s0, Nat.le_refl _, hs0, hx0.symm⟩
  | succ r ih =>
   obtain ⟨s', a, b, c⟩ := ih
   have e : it p (r + 1) x = it p (s' + 1) i := by simp only [it, c]
   by_cases d : s' + 1 < t
   ·exact ⟨s' + 1, by omega, d, e⟩
   ·refine ⟨s0, Nat.le_refl _, hs0, ?_⟩
    rw [e, show s' + 1 = t by omega, he, hx0]
 have hcx : OnCyc p x := ⟨t - s0, by omega, by rw [← it_add' hx0, show s0 + (t - s0) = t by omega]; exact he⟩
 obtain ⟨rl, hrl⟩ := hl
 have hln : l < n := it_lt hp hxn hrl
 have hpne : ∀ s, s < t → ∀ y, it p s i = some y → lost y = false := by
  intro s a y hy
  cases e : lost y with
  | false => rfl
  | true =>
   have h3 := hlost y e
   have h4 : it p (s + 1) i = none := by simp only [it, hy]; exact h3
   by_cases c : s + 1 < t
   ·obtain ⟨z, hz, _⟩ := hw.each (s + 1) c
    rw [h4] at hz; cases hz
   ·rw [show s + 1 = t by omega, he] at h4; cases h4
 have hlsn : sn l ≠ 0 ∧ sn0 l = 0 := by
  obtain ⟨s', a, b, c⟩ := orb rl
  rw [hrl] at c
  obtain ⟨z, hz, hz0⟩ := hw.each s' b
  rw [← c] at hz; cases hz
  exact ⟨by rw [hw.on s' b l c.symm]; omega, hz0⟩
 have hLl : Least p l := by
  refine ⟨cyc_along hcx hrl, fun s y hy => ?_⟩
  exact hmin (rl + s) y (by rw [it_add' hrl]; exact hy)
 have hlo : lost l = false := by
  obtain ⟨s', a, b, c⟩ := orb rl
  rw [hrl] at c
  exact hpne s' b l c.symm
 refine ⟨fun y hy h0 z hz => ?_, fun y hy hyn => ?_, fun y hy => ?_, fun y hy h0 => ?_, fun y hy h0 => ?_⟩
 ·rcases hat y hy with ⟨s, a, b⟩ | ho
  ·have hn : it p (s + 1) i = some z := by simp only [it, b]; exact hz
   by_cases c : s + 1 < t
   ·rw [hw.on _ c z hn]; omega
   ·rw [show s + 1 = t by omega, he] at hn; cases hn; rw [hx]; omega
  ·rw [hw.off y hy ho] at h0
   have h3 := hs.closed y hy h0 z hz
   rcases hat z (hp y z hy hz) with ⟨s', a', b'⟩ | ho'
   ·rw [hw.on s' a' z b']; omega
   ·rw [hw.off z (hp y z hy hz) ho']; exact h3
 ·rcases hat y hyn with ⟨s', a', b'⟩ | ho'
  ·rw [hw.on s' a' y b']; omega
  ·rw [hw.off y hyn ho']
   by_cases c : y = i
   ·subst c; exact absurd rfl (ho' 0 (by omega))
   ·exact hs.upto y (by omega) hyn
 ·rcases hat y hy with ⟨s', a', b'⟩ | ho'
  ·rw [hw.on s' a' y b']; omega
  ·rw [hw.off y hy ho']; have := hs.le y hy; omega
 ·by_cases cl : y = l
  ·subst cl; exact ⟨fun _ => .inr hLl, fun _ => h1⟩
  ·rw [h2 y hy cl]
   rcases hat y hy with ⟨s', a', b'⟩ | ho'
   ·obtain ⟨z, hz, hz0⟩ := hw.each s' a'
    rw [b'] at hz; cases hz
    rw [hs.rest y hy hz0, hpne s' a' y b']
    refine ⟨fun e => by simp at e, fun e => e.elim (fun f => by simp at f) (fun ⟨lc, lm⟩ => ?_)⟩
    exfalso
    by_cases c : s' < s0
    ·have h3 : it p (s0 - s') y = some x := by rw [← it_add' b', show s' + (s0 - s') = s0 by omega]; exact hx0
     obtain ⟨r, hr⟩ := cyc_back lc h3
     obtain ⟨s2, a2, b2, c2⟩ := orb r
     exact hw.inj s' s2 (by omega) b2 (by rw [b', ← c2, hr])
    ·have h3 : it p (s' - s0) x = some y := by rw [← it_add' hx0, show s0 + (s' - s0) = s' by omega]; exact b'
     have h4 := hmin _ y h3
     obtain ⟨r, hr⟩ := cyc_back hcx h3
     have h5 := lm (r + rl) l (by rw [it_add' hr]; exact hrl)
     omega
   ·rw [hw.off y hy ho'] at h0
    exact hs.seen y hy h0
 ·have cl : y ≠ l := fun e => hlsn.1 (e ▸ h0)
  rw [h2 y hy cl]
  rcases hat y hy with ⟨s', a', b'⟩ | ho'
  ·rw [hw.on s' a' y b'] at h0; omega
  ·rw [hw.off y hy ho'] at h0; exact hs.rest y hy h0
/-- The second walk: round the cycle, the least so far. -/
structure Rnd (p : Nat → Option Nat) (x r k l : Nat) : Prop where
 pos : 0 < r
 here : it p r x = some k
 has : ∃ r', r' < r ∧ it p r' x = some l
 min : ∀ r' y, r' < r → it p r' x = some y → l ≤ y
 fresh : ∀ r', 0 < r' → r' < r → it p r' x ≠ some x
theorem Rnd.start {x k : Nat} (h : p x = some k) : Rnd p x 1 k x := by
 refine ⟨by omega, by simp [it, h], ⟨0, by omega, rfl⟩, fun r' y h1 h2 => ?_, fun r' h1 h2 => by omega⟩
 obtain rfl : r' = 0 := by omega
 simp [it] at h2; omega
theorem Rnd.next {x r k l k' : Nat} (h : Rnd p x r k l) (hk : k ≠ x) (hp : p k = some k') : Rnd p x (r + 1) k' (Nat.min l k) := by
 refine ⟨by omega, by simp [it, h.here, hp], ?_, fun r' y h1 h2 => ?_, fun r' h1 h2 => ?_⟩
 ·rcases Nat.le_total l k with c | c
  ·obtain ⟨r', a, b⟩ := h.has
   exact ⟨r', by omega, by rw [b]; congr 1; exact (Nat.min_eq_left c).symm⟩
  ·exact ⟨r, by omega, by rw [h.here]; congr 1; exact (Nat.min_eq_right c).symm⟩
 ·by_cases c : r' = r
  ·subst c; rw [h.here] at h2; cases h2; exact Nat.min_le_right _ _
  ·exact Nat.le_trans (Nat.min_le_left _ _) (h.min r' y (by omega) h2)
 ·by_cases c : r' = r
  ·subst c; rw [h.here]; intro e; exact hk (Option.some.inj e)
  ·exact h.fresh r' h1 (by omega)
theorem Rnd.short {x r k l c : Nat} (h : Rnd p x r k l) (h0 : 0 < c) (hc : it p c x = some x) : r ≤ c := by
 rcases Nat.lt_or_ge c r with a | a
 ·exact absurd hc (h.fresh c h0 a)
 ·exact a
theorem Rnd.done {x r l : Nat} (h : Rnd p x r x l) : (∃ r, it p r x = some l) ∧ ∀ r y, it p r x = some y → l ≤ y := by
 refine ⟨h.has.imp (fun _ a => a.2), fun m y hy => ?_⟩
 have : ∀ m, ∃ r', r' < r ∧ it p m x = it p r' x := by
  intro m
  induction m with
  | zero => exact ⟨0, h.pos, rfl⟩
  | succ m ih =>
   obtain ⟨r', a, b⟩ := ih
   have e : it p (m + 1) x = it p (r' + 1) x := by simp only [it, b]
   by_cases c : r' + 1 < r
   ·exact ⟨r' + 1, c, e⟩
   ·refine ⟨0, h.pos, ?_⟩
    rw [e, show r' + 1 = r by omega, h.here]; rfl
 obtain ⟨r', a, b⟩ := this m
 exact h.min r' y a (b ▸ hy)
end
end Go.Proofs.Ytibakmchgppndaa
/- Rows of one-cell elements: what is read, stored, made. -/
namespace Go.Proofs.Ytibakmchgppndaa
open Go.RowKit

theorem own_cell {w : World} {base e g n cap : Nat} {xs : List Value} (h : w.ownsRow base e 1 (.slice (some ⟨g, 0, none⟩) n cap) n xs) {i : Nat} {u : Value} (hu : xs[i]? = some u) : w.cell? ⟨g, i, none⟩ = some u := by
 have := h.cells (g := g) rfl i u hu
 rwa [add_mid, Nat.zero_add] at this
theorem run_store1 {P : Program} (w : World) (b o : Nat) (ty : TypeId) (u : Value) (hc : (w.cell? ⟨b, o, none⟩).isSome = true) (hf : w.frozen? ⟨b, o, none⟩ = false) (hi : (P.info? ty).map (·.size) = some 1) (hu : u.cells = #[u]) (h1 : u.oneCell' = true) :
  (storeVar ty ⟨b, o, none⟩ u).run P w = .ok () (w.setCell ⟨b, o, none⟩ u) := by
 have := run_storeCells_cells (P := P) b o [u] 0 w (fun j hj => by
  obtain rfl : j = 0 := by simpa using hj
  simpa using hc) (fun j hj => by
  obtain rfl : j = 0 := by simpa using hj
  simpa using hf) (by simpa using h1)
 cases hq : P.info? ty with
 | none => simp [hq] at hi
 | some i =>
  have hs : i.size = 1 := by simpa [hq] using hi
  simp only [Nat.add_zero] at this
  simp [storeVar, sizeOf, typeInfo, hq, hu, hs, this, World.setCells]
theorem wpList_store1 {P : Program} {ops : Array Oper} {rest : List Oper} {op : Oper} {a : Act} {w : World} {Q : Exit → Act → World → Prop} (hgd : op.guard = none) (ty : TypeId) (x y : Operand) (ho : op.op = .store ty x y)
  (b o : Nat) (u : Value) (hx : a.eval x = .pointer (some ⟨b, o, none⟩)) (hy : a.eval y = u)
  (hc : (w.cell? ⟨b, o, none⟩).isSome = true) (hf : w.frozen? ⟨b, o, none⟩ = false) (hi : (P.info? ty).map (·.size) = some 1) (hu : u.cells = #[u]) (h1 : u.oneCell' = true)
  (h : ∀ W, W = w.setCell ⟨b, o, none⟩ u → wpList P ops Q rest (a.put op.dst undef) W) : wpList P ops Q (op :: rest) a w :=
 wpList_plain hgd fun _ hK => by
  unfold Oper.wp execOp
  simp only [ho, hx, hy, Instr.storeAt, Instr.sureAddr, Sem.run_bind, Sem.run_pure, Result.andThen_ok, run_store1 w b o ty u hc hf hi hu h1]
  exact hK _ _ (h _ rfl)
theorem step_store1 {P : Program} {ops : Array Oper} {o : Oper} {a : Act} {w : World} {K : Act → World → Prop} {Q : Exit → Act → World → Prop} {E : Prop} (hgd : o.guard = none) (ty : TypeId) (x y : Operand) (ho : o.op = .store ty x y)
  (b f : Nat) (u : Value) (hx : a.eval x = .pointer (some ⟨b, f, none⟩)) (hy : a.eval y = u)
  (hc : (w.cell? ⟨b, f, none⟩).isSome = true) (hf : w.frozen? ⟨b, f, none⟩ = false) (hi : (P.info? ty).map (·.size) = some 1) (hu : u.cells = #[u]) (h1 : u.oneCell' = true)
  (h : ∀ W, W = w.setCell ⟨b, f, none⟩ u → K (a.put o.dst undef) W) : if Region.wanted o (yielded ops a.tmps) = true then Oper.wp P o a w K Q else E := by
 rw [if_pos (by simp [Region.wanted, hgd])]
 unfold Oper.wp execOp
 simp only [ho, hx, hy, Instr.storeAt, Instr.sureAddr, Sem.run_bind, Sem.run_pure, Result.andThen_ok, run_store1 w b f ty u hc hf hi hu h1]
 exact h _ rfl
theorem step_make {P : Program} {ops : Array Oper} {o : Oper} {a : Act} {w : World} {K : Act → World → Prop} {Q : Exit → Act → World → Prop} {E : Prop} (hgd : o.guard = none) (t : TypeId) (x y : Operand) (ho : o.op = .makeSlice t x y)
  (base : Nat) (e : TypeId) (i : TypeInfo) (z : Value) (bytes : Nat) (ht : P.underlying t = some (.slice e)) (hi : P.info? e = some i) (hz : i.zero = some z) (hsize : i.size = 1) (hby : i.bytes = bytes) (hz1 : z.cells = #[z])
  (n : Nat) (hx : a.eval x = .int .i64 n) (hy : a.eval y = .int .i64 n) (hn : n ≤ 1000) (hb : bytes ≤ 1000) (hbase : base ≤ w.heap.size)
  (h : ∀ w', w'.ownsRow base e 1 (.slice (some ⟨w.heap.size, 0, none⟩) n n) n (List.replicate n z) → Kept (fun _ => False) w w' → w'.heap.size = w.heap.size + 1 → K (a.put o.dst (.slice (some ⟨w.heap.size, 0, none⟩) n n)) w') :
  if Region.wanted o (yielded ops a.tmps) = true then Oper.wp P o a w K Q else E := by
 rw [if_pos (by simp [Region.wanted, hgd])]
 have hmul : bytes * n ≤ 1000 * 1000 := Nat.mul_le_mul hb hn
 have hb2 : (i.bytes : Int) * (n : Int) ≤ 281474976710656 := by
  rw [hby, ← Int.natCast_mul]; omega
 have hr := run_make (P := P) w t e i z ht hi hz .i64 .i64 (n : Int) (n : Int) (by omega) (Int.le_refl _) hb2 (by omega)
 simp only [Int.toNat_natCast, hsize, Nat.mul_one, hz1] at hr
 unfold Oper.wp execOp
 simp only [ho, hx, hy, hr, Sem.run_bind, Sem.run_pure, Result.andThen_ok]
 refine h _ ?_ ((Kept.refl _ w).alloc _) (Array.size_push _)
 have := World.ownsRow_lit (e := e) (size := 1) w (madeCells #[z] n) n hbase (by unfold maxLen; omega) (by rw [Nat.mul_one]; exact size_madeCells _ _)
 rwa [toList_madeCells_one] at this
theorem wpList_make1 {P : Program} {ops : Array Oper} {rest : List Oper} {o : Oper} {a : Act} {w : World} {Q : Exit → Act → World → Prop} (hgd : o.guard = none) (t : TypeId) (x y : Operand) (ho : o.op = .makeSlice t x y)
  (base : Nat) (e : TypeId) (i : TypeInfo) (z : Value) (bytes : Nat) (ht : P.underlying t = some (.slice e)) (hi : P.info? e = some i) (hz : i.zero = some z) (hsize : i.size = 1) (hby : i.bytes = bytes) (hz1 : z.cells = #[z])
  (n : Nat) (hx : a.eval x = .int .i64 n) (hy : a.eval y = .int .i64 n) (hn : n ≤ 1000) (hb : bytes ≤ 1000) (hbase : base ≤ w.heap.size)
  (h : ∀ w', w'.ownsRow base e 1 (.slice (some ⟨w.heap.size, 0, none⟩) n n) n (List.replicate n z) → Kept (fun _ => False) w w' → w'.heap.size = w.heap.size + 1 → wpList P ops Q rest (a.put o.dst (.slice (some ⟨w.heap.size, 0, none⟩) n n)) w') : wpList P ops Q (o :: rest) a w :=
 wpList_step fun _ hK => step_make hgd t x y ho base e i z bytes ht hi hz hsize hby hz1 n hx hy hn hb hbase (fun w' h1 h2 h3 => hK _ _ (h w' h1 h2 h3))
/-- The row behind a store into it; other rows. -/
theorem own_put {w : World} {base e g n cap : Nat} {xs : List Value} (h : w.ownsRow base e 1 (.slice (some ⟨g, 0, none⟩) n cap) n xs) (i : Nat) (u : Value) : (w.setCell ⟨g, i, none⟩ u).ownsRow base e 1 (.slice (some ⟨g, 0, none⟩) n cap) n (xs.set i u) := (h.stored i u).1
theorem kept_put (w : World) (g i : Nat) (u : Value) : Kept (fun k => k = g) w (w.setCell ⟨g, i, none⟩ u) := (Kept.refl (fun k => k = g) w).setCell (p := ⟨g, i, none⟩) (fun _ => rfl) u
theorem inf3t : (Try.prog.info? 3).map (fun i => (i.zero, i.size, i.bytes)) = some (some (.int .i64 0), 1, 8) := by kernel_rfl
theorem inf4 : (Try.prog.info? 4).map (fun i => (i.zero, i.size, i.bytes)) = some (some (.bool false), 1, 1) := by kernel_rfl
theorem inf49 : (Try.prog.info? 55).map (fun i => (i.zero, i.size, i.bytes)) = some (some (.slice none 0 0), 1, 24) := by kernel_rfl
theorem sz3 : (Try.prog.info? 3).map (·.size) = some 1 := by kernel_rfl
theorem sz4 : (Try.prog.info? 4).map (·.size) = some 1 := by kernel_rfl
theorem sz49 : (Try.prog.info? 55).map (·.size) = some 1 := by kernel_rfl
theorem sz50 : (Try.prog.info? 111).map (·.size) = some 1 := by kernel_rfl
theorem sz51 : (Try.prog.info? 112).map (·.size) = some 1 := by kernel_rfl
abbrev ints (P : List Int) : List Value := P.map (.int .i64 ·)
abbrev bools (H : List Bool) : List Value := H.map (.bool ·)
end Go.Proofs.Ytibakmchgppndaa
/- (*wood).cycles. -/
namespace Go.Proofs.Ytibakmchgppndaa
open Go.RowKit

abbrev nats (P : List Nat) : List Value := P.map (fun k => .int .i64 ((k : Nat) : Int))
theorem nats_at {P : List Nat} {i : Nat} (h : i < P.length) : (nats P)[i]? = some (.int .i64 ((nth P i : Nat) : Int)) := by
 simp [nats, nth_get h]
theorem bools_at {P : List Bool} {i : Nat} (h : i < P.length) : (bools P)[i]? = some (.bool (nth P i)) := by
 simp [bools, nth_get h]
theorem nats_set (P : List Nat) (i k : Nat) : (nats P).set i (.int .i64 ((k : Nat) : Int)) = nats (P.set i k) := by simp [nats]
theorem bools_set (P : List Bool) (i : Nat) (k : Bool) : (bools P).set i (.bool k) = bools (P.set i k) := by simp [bools]
theorem nats_zero (n : Nat) : List.replicate n (Value.int .i64 0) = nats (List.replicate n 0) := by simp [nats]
theorem nth_zero (n i : Nat) : nth (List.replicate n (0 : Nat)) i = 0 := by
 unfold nth
 rw [List.getD_eq_getElem?_getD, List.getElem?_replicate]
 split <;> rfl
/-- No round of a walk that ended elsewhere lies where it ended. -/
theorem Wlk.out {p : Nat → Option Nat} {n i t x : Nat} {sn0 sn : Nat → Nat} (h : Wlk p n i sn0 sn t) (hx : x < n) (h0 : sn x ≠ 0) (h1 : sn x ≠ i + 1) : sn0 x ≠ 0 := by
 rw [← h.off x hx (fun s hs e => h1 (h.on s hs x e))]; exact h0

theorem Wlk.cyc {p : Nat → Option Nat} {n i t x : Nat} {sn0 sn : Nat → Nat} (h : Wlk p n i sn0 sn t) (he : it p t i = some x) (hx : x < n) (h0 : sn0 x ≤ i) (h1 : sn x = i + 1) : OnCyc p x := by
 by_cases c : ∃ s, s < t ∧ it p s i = some x
 ·obtain ⟨s, a, b⟩ := c
  exact ⟨t - s, by omega, by rw [← it_add' b, show s + (t - s) = t by omega]; exact he⟩
 ·have := h.off x hx (fun s a b => c ⟨s, a, b⟩)
  omega

set_option maxHeartbeats 8000000 in
set_option maxRecDepth 100000 in
theorem cycles_any (w : World) (B wb n caps gp cp gh : Nat) (aos ap : Option Addr) (H : List Bool) (p : Nat → Option Nat) (lost : Nat → Bool)
  (h0 : w.cell? ⟨wb, 0, none⟩ = some (.slice aos n caps)) (h1 : w.cell? ⟨wb, 1, none⟩ = some (.slice ap n cp)) (h2 : w.cell? ⟨wb, 2, none⟩ = some (.slice (some ⟨gh, 0, none⟩) n n))
  (hap : 0 < n → ap = some ⟨gp, 0, none⟩) (hpar : ∀ x, x < n → w.cell? ⟨gp, x, none⟩ = some (.int .i64 (pInt (p x))))
  (hown : w.ownsRow B 4 1 (.slice (some ⟨gh, 0, none⟩) n n) n (bools H)) (hHl : H.length = n) (hH : ∀ x, x < n → nth H x = lost x)
  (hpn : ∀ x y, x < n → p x = some y → y < n) (hlost : ∀ x, lost x = true → p x = none) (hn : n ≤ 1000) (hwb : wb ≠ gh) (hgp : gp ≠ gh) :
  Calls Try.prog 75 #[.pointer (some ⟨wb, 0, none⟩)] w fun e w' => e = .returned (.tuple #[]) ∧ ∃ H', w'.ownsRow B 4 1 (.slice (some ⟨gh, 0, none⟩) n n) n (bools H') ∧ H'.length = n ∧ (∀ x, x < n → (nth H' x = true ↔ lost x = true ∨ Least p x)) ∧ Kept (fun k => k = gh) w w' := by
 have HAP := Lib.hid hap; have HPAR := Lib.hid hpar; have HOWN := Lib.hid hown; have HH := Lib.hid hH; have HPN := Lib.hid hpn; have HLOST := Lib.hid hlost; have HHL := Lib.hid hHl
 have C0 := Lib.hid h0; have C1 := Lib.hid h1; have C2 := Lib.hid h2
 have HW := Lib.hid hwb; have HG := Lib.hid hgp
 have hghl : gh < w.heap.size := by
  rcases row_form hown with ⟨e, _⟩ | ⟨g, c, e, _, _, h, _⟩
  ·cases e
  ·cases e; exact h
 have HGL := Lib.hid hghl
 clear hap hpar hown hH hpn hlost hHl hwb hgp hghl h1 h2
 obtain ⟨i3, hi3, hz3⟩ : ∃ i, Try.prog.info? 3 = some i ∧ (i.zero, i.size, i.bytes) = (some (.int .i64 0), 1, 8) := by
  have := inf3t
  cases h : Try.prog.info? 3 with
  | none => simp [h] at this
  | some i => exact ⟨i, rfl, by simpa [h] using this⟩
 obtain ⟨z3, s3, b3⟩ : i3.zero = some (.int .i64 0) ∧ i3.size = 1 ∧ i3.bytes = 8 := by simpa using hz3
 clear hz3
 go_enter Try.func75, Try.ntmps75
 go_wp2_with (refine wpList_make1 (by rfl) 55 _ _ (by rfl) w.heap.size 3 i3 _ 8 Try.underlying55 hi3 z3 s3 b3 rfl n (by rfl) (by rfl) hn (by decide) (Nat.le_refl _) ?_)
 intro w1 hs0 hk1 hsz1
 obtain ⟨gs, hgs⟩ : ∃ g, w.heap.size = g := ⟨_, rfl⟩
 rw [hgs] at hs0 ⊢
 have HGS := Lib.hid hgs; have HS0 := Lib.hid hs0; have K1 := Lib.hid hk1
 clear hgs hs0 hk1 hsz1
 have d0 := K1.out.cell h0 (fun f => f)
 clear h0
 go_wp2
 go_loopg [18] n (fun ghv s wr => ∃ (i : Nat) (Sn : List Nat) (Hs : List Bool), i + ghv = n ∧ s = .int .i64 i ∧ Sn.length = n ∧ Hs.length = n ∧ wr.ownsRow gs 3 1 (.slice (some ⟨gs, 0, none⟩) n n) n (nats Sn) ∧ wr.ownsRow B 4 1 (.slice (some ⟨gh, 0, none⟩) n n) n (bools Hs) ∧ Seen p n lost i (nth Sn) (nth Hs) ∧ Kept (fun k => k = gh) w wr)
 case atStart => exact ⟨0, List.replicate n 0, H, by omega, by go_num, by simp, HHL.out, by rw [← nats_zero]; rw [← HGS.out] at HS0 ⊢; exact HS0.out, own_keptS HOWN.out K1.out (fun _ _ f => f), ⟨fun x _ h => absurd (nth_zero n x) h, fun x h => by omega, fun x _ => by rw [nth_zero]; omega, fun x _ h => absurd (nth_zero n x) h, fun x hx _ => HH.out x hx⟩, K1.out.mono (fun _ _ f => f.elim)⟩
 case round =>
  obtain ⟨i, Sn, Hs, hg1, rfl, hsl, hhl, hso, hho, hseen, hk⟩ := hrel
  have G1 := Lib.hid hg1; have SL := Lib.hid hsl; have HL := Lib.hid hhl; have SO := Lib.hid hso; have HO := Lib.hid hho; have SEEN := Lib.hid hseen; have KK := Lib.hid hk
  clear hg1 hsl hhl hso hho hseen hk
  by_cases hin : i < n
  ·have i0 : (i : Int) < (n : Int) := by omega
   have e1 : IntKind.i64.wrap ((i : Int) + 1) = ((i + 1 : Nat) : Int) := IntWalk.i64_in _ (by omega)
   obtain rfl := HAP.out (by omega)
   clear HAP
   go_wp2
   go_loopg [4] n (fun ghv2 a wr2 => ∃ (t : Nat) (Sn2 : List Nat), t + ghv2 = n ∧ a = .int .i64 (pInt (it p t i)) ∧ Sn2.length = n ∧ wr2.ownsRow gs 3 1 (.slice (some ⟨gs, 0, none⟩) n n) n (nats Sn2) ∧ wr2.ownsRow B 4 1 (.slice (some ⟨gh, 0, none⟩) n n) n (bools Hs) ∧ Wlk p n i (nth Sn) (nth Sn2) t ∧ Kept (fun k => k = gh) w wr2)
   case atStart => exact ⟨0, Sn, by omega, by go_num, SL.out, SO.out, HO.out, Wlk.start p n i _, KK.out⟩
   case round =>
    obtain ⟨t, Sn2, hg2, rfl, hsl2, hso2, hho2, hwlk, hk2⟩ := hrel
    have G2 := Lib.hid hg2; have SL2 := Lib.hid hsl2; have SO2 := Lib.hid hso2; have HO2 := Lib.hid hho2; have WLK := Lib.hid hwlk; have K2 := Lib.hid hk2
    clear hg2 hsl2 hso2 hho2 hwlk hk2
    have ne1 : ¬ (wb = gh) := HW.out
    have c1 := K2.out.cell C1.out ne1
    have c2 := K2.out.cell C2.out ne1
    clear ne1
    cases hx : it p t i with
    | none =>
     have HX := Lib.hid hx
     clear hx
     simp only [pInt]
     go_wp2
     go_roundg (n - (i + 1))
     case measure => have := G1.out; omega
     case rel => exact ⟨i + 1, Sn2, Hs, by omega, by go_num, SL2.out, HL.out, SO2.out, HO2.out, SEEN.out.plain WLK.out HPN.out hin (.inl HX.out), K2.out⟩
    | some x =>
     have HX := Lib.hid hx
     have hxn : x < n := it_lt HPN.out hin hx
     clear hx
     simp only [pInt]
     have x0 : (0 : Int) ≤ (x : Int) := by omega
     have x1 : (x : Int) < (n : Int) := by omega
     have x2 : ((x : Int) != -1) = true := by simp
     have x3 : ((x : Int) == -1) = false := by simp
     have cs := own_cell SO2.out (nats_at (by rw [SL2.out]; exact hxn))
     have cp1 := Lib.hid (K2.out.cell (HPAR.out x hxn) HG.out)
     have fz := Lib.hid (SO2.out.frozenAt)
     by_cases z : nth Sn2 x = 0
     ·have z1 : (((nth Sn2 x : Nat) : Int) == 0) = true := by simp [z]
      have sz := Lib.hid z
      clear z
      have WLK2 := Lib.hid (WLK.out.step (sn' := nth (Sn2.set x (i + 1))) HX.out hxn sz.out (by rw [nth_set _ _ _ _ (by rw [SL2.out]; exact hxn), if_pos rfl]) (fun y _ hne => by rw [nth_set _ _ _ _ (by rw [SL2.out]; exact hxn), if_neg hne]) HPN.out hin)
      have ts := Lib.hid (WLK2.out.short HPN.out hin)
      have B1 := Lib.hid (show wb ≠ gs ∧ gp ≠ gs ∧ gh ≠ gs from by
       have q1 := World.block_lt_of_cell? _ _ C0.out
       have q2 := World.block_lt_of_cell? _ _ (HPAR.out x hxn)
       have q3 := HGL.out
       have q4 := HGS.out
       simp only at q1 q2
       omega)
      go_wp2_with (refine wpList_store1 (by rfl) 3 _ _ (by rfl) gs x (.int .i64 ((i + 1 : Nat) : Int)) (by rfl) (by rfl) (by rw [cs]; rfl) (fz.out _) sz3 rfl rfl ?_; intro W hW; have KP := Lib.hid (show Kept (fun k => k = gs) wr W from by rw [hW]; exact kept_put wr gs x _); have SO3 := Lib.hid (show W.ownsRow gs 3 1 (.slice (some ⟨gs, 0, none⟩) n n) n (nats (Sn2.set x (i + 1))) from by rw [hW, ← nats_set]; exact own_put SO2.out x _); have cpW := KP.out.cell cp1.out B1.out.2.1; have c1W := KP.out.cell c1 B1.out.1; clear hW cs c1 c2)
      go_roundg (n - (t + 1))
      case measure => have := G2.out; have := ts.out; omega
      case rel => exact ⟨t + 1, Sn2.set x (i + 1), by have := ts.out; omega, by simp [it, HX.out], by simpa using SL2.out, SO3.out, own_keptS HO2.out KP.out (fun _ h f => by cases h; exact B1.out.2.2 f), WLK2.out, K2.out.trans KP.out (fun _ _ h => h) (fun k h1 h2 => by have := HGS.out; omega)⟩
     ·have z1 : (((nth Sn2 x : Nat) : Int) == 0) = false := by simp; omega
      by_cases zi : nth Sn2 x = i + 1
      ·have z2 : (((nth Sn2 x : Nat) : Int) != ((i + 1 : Nat) : Int)) = false := by simp; omega
       have OC := Lib.hid (WLK.out.cyc HX.out hxn (by have := SEEN.out.le x hxn; exact this) zi)
       have ZI := Lib.hid zi
       clear z zi
       obtain ⟨k1, hk1⟩ := cyc_some OC.out 1
       simp only [it, Option.bind_some] at hk1
       have cp2 : wr.cell? ⟨gp, x, none⟩ = some (.int .i64 ((k1 : Nat) : Int)) := by rw [cp1.out, hk1]; rfl
       have RN := Lib.hid (Rnd.start hk1)
       obtain ⟨cl, hcl0, hcl, hcx⟩ := cyc_short HPN.out hxn OC.out
       have CX := Lib.hid hcx; have CL0 := Lib.hid hcl0
       clear hk1 hcx hcl0
       go_wp2
       go_loopg [5, 6] n (fun ghv3 a3 b3 wr3 => ∃ (r k l : Nat), r + ghv3 = n + 1 ∧ Rnd p x r k l ∧ a3 = .int .i64 l ∧ b3 = .int .i64 k ∧ wr = wr3)
       case atStart => exact ⟨1, k1, x, by omega, RN.out, by go_num, by go_num, rfl⟩
       case round =>
        obtain ⟨r, k, l, hg3, hrn, rfl, rfl, rfl⟩ := hrel
        have G3 := Lib.hid hg3; have RN2 := Lib.hid hrn
        clear hg3 hrn
        have HKN := Lib.hid (show k < n from it_lt HPN.out hxn RN2.out.here)
        have HLN := Lib.hid (show l < n from it_lt HPN.out hxn RN2.out.has.choose_spec.2)
        by_cases hkx : k = x
        ·obtain rfl := hkx
         have y1 : ((k : Int) != (k : Int)) = false := by simp
         have l0 : (0 : Int) ≤ (l : Int) := by omega
         have l1 : (l : Int) < (n : Int) := by have := HLN.out; omega
         have ch := own_cell HO2.out (bools_at (i := l) (by rw [HL.out]; exact HLN.out))
         have fh := Lib.hid (HO2.out.frozenAt)
         have B1 := Lib.hid (show gh ≠ gs from by
          have q3 := HGL.out
          have q4 := HGS.out
          omega)
         go_wp2_with (refine wpList_store1 (by rfl) 4 _ _ (by rfl) gh l (.bool true) (by rfl) (by rfl) (by rw [ch]; rfl) (fh.out _) sz4 rfl rfl ?_; intro W hW; have KP := Lib.hid (show Kept (fun k => k = gh) wr W from by rw [hW]; exact kept_put wr gh l _); have HO3 := Lib.hid (show W.ownsRow B 4 1 (.slice (some ⟨gh, 0, none⟩) n n) n (bools (Hs.set l true)) from by rw [hW, ← bools_set]; exact own_put HO2.out l _); clear hW ch)
         go_roundg (n - (i + 1))
         case measure => have := G1.out; omega
         case rel => exact ⟨i + 1, Sn2, Hs.set l true, by omega, by go_num, SL2.out, by simpa using HL.out, own_keptS SO2.out KP.out (fun _ h f => by cases h; exact B1.out f.symm), HO3.out, SEEN.out.cycle WLK.out HPN.out hin HLOST.out HX.out ZI.out RN2.out.done.1 RN2.out.done.2 (by rw [nth_set _ _ _ _ (by rw [HL.out]; exact HLN.out), if_pos rfl]) (fun y _ hne => by rw [nth_set _ _ _ _ (by rw [HL.out]; exact HLN.out), if_neg hne]), K2.out.trans KP.out (fun _ _ h => h) (fun _ _ h => h)⟩
        ·have y1 : ((k : Int) != (x : Int)) = true := by simp; omega
         have HKX := Lib.hid hkx
         clear hkx
         obtain ⟨k2, hk2⟩ := cyc_some (cyc_along (show OnCyc p x from ⟨cl, CL0.out, CX.out⟩) RN2.out.here) 1
         simp only [it, Option.bind_some] at hk2
         have k0 : (0 : Int) ≤ (k : Int) := by omega
         have k3 : (k : Int) < (n : Int) := by have := HKN.out; omega
         have cp3 : wr.cell? ⟨gp, k, none⟩ = some (.int .i64 ((k2 : Nat) : Int)) := by rw [K2.out.cell (HPAR.out k HKN.out) HG.out, hk2]; rfl
         have RN3 := Lib.hid (RN2.out.next HKX.out hk2)
         have SH := Lib.hid (RN3.out.short CL0.out CX.out)
         clear hk2
         go_wp2
         go_roundg (n + 1 - (r + 1))
         case measure => have := G3.out; have := SH.out; omega
         case rel => exact ⟨r + 1, k2, Nat.min l k, by have := SH.out; have := G3.out; omega, RN3.out, congrArg (Value.int .i64) (show min (l : Int) (k : Int) = ((Nat.min l k : Nat) : Int) from by rcases Nat.lt_or_ge k l with h | h; (· rw [show Nat.min l k = k from Nat.min_eq_right (by omega)]; omega); (· rw [show Nat.min l k = l from Nat.min_eq_left (by omega)]; omega)), rfl, rfl⟩
      ·have z2 : (((nth Sn2 x : Nat) : Int) != ((i + 1 : Nat) : Int)) = true := by simp; omega
       have OUT := Lib.hid (WLK.out.out hxn z zi)
       clear z zi
       go_wp2
       go_roundg (n - (i + 1))
       case measure => have := G1.out; omega
       case rel => exact ⟨i + 1, Sn2, Hs, by omega, by go_num, SL2.out, HL.out, SO2.out, HO2.out, SEEN.out.plain WLK.out HPN.out hin (.inr ⟨x, HX.out, OUT.out⟩), K2.out⟩
  ·have i0 : ¬ (i : Int) < (n : Int) := by omega
   go_wp2
   go_end0
   have E1 : i = n := by have := G1.out; omega
   subst E1
   exact ⟨rfl, Hs, HO.out, HL.out, fun x hx => SEEN.out.seen x hx (SEEN.out.upto x hx hx), KK.out⟩
end Go.Proofs.Ytibakmchgppndaa
/- What trees.of lays in memory. -/
namespace Go.Proofs.Ytibakmchgppndaa
open Go.RowKit

/-- The place of the parent of the one at x. -/
def pF (R : List Spn) (x : Nat) : Option Nat := plF R (nth R x).pa
def lostF (R : List Spn) (x : Nat) : Bool := ((nth R x).pa != 0) && (pInt (pF R x) == -1)
open Classical in
noncomputable def hdF (R : List Spn) (x : Nat) : Bool := decide (lostF R x = true ∨ Least (pF R) x)
open Classical in
noncomputable def kidF (R : List Spn) (m x : Nat) : List Nat := (List.range m).filter (fun k => decide (pF R k = some x ∧ hdF R k = false))
theorem pF_lt {R : List Spn} {x y : Nat} (h : pF R x = some y) : y < R.length := (plF_spec h).1
theorem lostF_none {R : List Spn} {x : Nat} (h : lostF R x = true) : pF R x = none := by
 unfold lostF at h
 cases e : pF R x with
 | none => rfl
 | some y => rw [e] at h; simp [pInt] at h
def ReadsN (b : Nat) (w : World) (v : Value) (l : List Nat) : Prop := ∃ ao cap, v = .slice ao l.length cap ∧ (l = [] ∨ ∃ g o, ao = some ⟨g, o, none⟩ ∧ b ≤ g ∧ ∀ j u, (nats l)[j]? = some u → w.cell? ⟨g, o + j, none⟩ = some u)
structure Wood (b : Nat) (w : World) (wb : Nat) (R : List Spn) : Prop where
 new : b ≤ wb
 spans : ∃ v, w.cell? ⟨wb, 0, none⟩ = some v ∧ ReadsSb b w v R
 head : ∃ gh, b ≤ gh ∧ w.cell? ⟨wb, 2, none⟩ = some (.slice (some ⟨gh, 0, none⟩) R.length R.length) ∧ ∀ x, x < R.length → w.cell? ⟨gh, x, none⟩ = some (.bool (hdF R x))
 kids : ∃ gk, b ≤ gk ∧ w.cell? ⟨wb, 3, none⟩ = some (.slice (some ⟨gk, 0, none⟩) R.length R.length) ∧ ∀ x, x < R.length → ∃ v, w.cell? ⟨gk, x, none⟩ = some v ∧ ReadsN b w v (kidF R R.length x)
theorem ReadsN.keptT {b : Nat} {T : Nat → Prop} {w w' : World} {v : Value} {l : List Nat} (h : ReadsN b w v l) (K : Kept T w w') (hT : ∀ k, T k → k < b) : ReadsN b w' v l := by
 obtain ⟨ao, cap, e, h⟩ := h
 exact ⟨ao, cap, e, h.imp id (fun ⟨g, o, e, hb, c⟩ => ⟨g, o, e, hb, fun j u hu => K.cell (c j u hu) (fun t => by have := hT _ t; simp only at this; omega)⟩)⟩
theorem Wood.keptT {b : Nat} {T : Nat → Prop} {w w' : World} {wb : Nat} {R : List Spn} (h : Wood b w wb R) (k : Kept T w w') (hT : ∀ k, T k → k < b) : Wood b w' wb R := by
 obtain ⟨h0, ⟨v, a, r⟩, ⟨gh, h1, c, d⟩, ⟨gk, h2, e, f⟩⟩ := h
 refine ⟨h0, ⟨v, k.cell a (fun t => ?_), r.keptT k hT⟩, ⟨gh, h1, k.cell c (fun t => ?_), fun x hx => k.cell (d x hx) (fun t => ?_)⟩, ⟨gk, h2, k.cell e (fun t => ?_), fun x hx => ?_⟩⟩
 ·have := hT _ t; simp only at this; omega
 ·have := hT _ t; simp only at this; omega
 ·have := hT _ t; simp only at this; omega
 ·have := hT _ t; simp only at this; omega
 ·obtain ⟨v, h3, h4⟩ := f x hx
  exact ⟨v, k.cell h3 (fun t => by have := hT _ t; simp only at this; omega), h4.keptT k hT⟩
theorem Wood.kept {b : Nat} {w w' : World} {wb : Nat} {R : List Spn} (h : Wood b w wb R) (k : Kept (fun _ => False) w w') : Wood b w' wb R := h.keptT k (fun _ f => f.elim)
theorem kidF_snoc (R : List Spn) (j x : Nat) : kidF R (j + 1) x = kidF R j x ++ (if pF R j = some x ∧ hdF R j = false then [j] else []) := by
 simp only [kidF, List.range_succ, List.filter_append]
 congr 1
 by_cases h : pF R j = some x ∧ hdF R j = false
 ·rw [if_pos h]; simp [h]
 ·rw [if_neg h]; simp; simpa using h
theorem kidF_skip {R : List Spn} {j : Nat} (h : pF R j = none ∨ hdF R j = true) (x : Nat) : kidF R (j + 1) x = kidF R j x := by
 rw [kidF_snoc, if_neg, List.append_nil]
 rintro ⟨a, b⟩
 rcases h with h | h
 ·rw [h] at a; cases a
 ·rw [h] at b; cases b
theorem kidF_other {R : List Spn} {j q x : Nat} (h : pF R j = some q) (hx : x ≠ q) : kidF R (j + 1) x = kidF R j x := by
 rw [kidF_snoc, if_neg, List.append_nil]
 rintro ⟨a, _⟩
 rw [h] at a; exact hx (Option.some.inj a).symm
theorem kidF_here {R : List Spn} {j q : Nat} (h : pF R j = some q) (hh : hdF R j = false) : kidF R (j + 1) q = kidF R j q ++ [j] := by
 rw [kidF_snoc, if_pos ⟨h, hh⟩]
theorem kidF_zero (R : List Spn) (x : Nat) : kidF R 0 x = [] := rfl
theorem own_lt {w : World} {base e size : Nat} {v : Value} {n : Nat} {xs : List Value} (h : w.ownsRow base e size v n xs) {k : Nat} (hk : v.ownBlock = some k) : base ≤ k ∧ k < w.heap.size := by
 rcases row_form h with ⟨rfl, _⟩ | ⟨g, c, rfl, _, hb, hlt, _⟩
 ·cases hk
 ·cases hk; exact ⟨hb, hlt⟩
theorem map_upd (kv : Nat → Value) (n q : Nat) (v : Value) : ((List.range n).map kv).set q v = (List.range n).map (fun x => if x = q then v else kv x) := by
 apply List.ext_getElem?
 intro k
 rw [List.getElem?_set, List.getElem?_map, List.getElem?_map]
 by_cases hk : k < n
 ·rw [List.getElem?_eq_getElem (by simpa using hk)]
  by_cases c : q = k
  ·subst c; simp [hk]
  ·simp [c, Ne.symm c]
 ·rw [List.getElem?_eq_none (by simpa using hk)]
  split
  ·simp; omega
  ·simp
/-- The kids' rows, behind so many rounds. -/
structure KidsAt (R : List Spn) (B b0 gk n j : Nat) (kv : Nat → Value) (w : World) : Prop where
 top : w.ownsRow B 55 1 (.slice (some ⟨gk, 0, none⟩) n n) n ((List.range n).map kv)
 each : ∀ x, x < n → w.ownsRow b0 3 1 (kv x) (kidF R j x).length (nats (kidF R j x))
 apart : ∀ x y b, x < n → y < n → x ≠ y → (kv x).ownBlock = some b → (kv y).ownBlock ≠ some b
 old : gk < b0
theorem KidsAt.kept {R : List Spn} {B b0 gk n j : Nat} {kv : Nat → Value} {w w' : World} (h : KidsAt R B b0 gk n j kv w) (k : Kept (fun _ => False) w w') : KidsAt R B b0 gk n j kv w' :=
 ⟨own_keptS h.top k (fun _ _ f => f), fun x hx => own_keptS (h.each x hx) k (fun _ _ f => f), h.apart, h.old⟩
theorem KidsAt.skip {R : List Spn} {B b0 gk n j : Nat} {kv : Nat → Value} {w : World} (h : KidsAt R B b0 gk n j kv w) (hs : pF R j = none ∨ hdF R j = true) : KidsAt R B b0 gk n (j + 1) kv w :=
 ⟨h.top, fun x hx => by rw [kidF_skip hs]; exact h.each x hx, h.apart, h.old⟩
theorem KidsAt.push {R : List Spn} {B b0 gk n j : Nat} {kv : Nat → Value} {w w6 W2 : World} (h : KidsAt R B b0 gk n j kv w) {q : Nat} (hq : q < n) (hp : pF R j = some q) (hh : hdF R j = false) {nv : Value}
  (hw : Kept (fun k => (kv q).ownBlock = some k) w w6) (hown : w6.ownsRow b0 3 1 nv ((kidF R j q).length + 1) (nats (kidF R j q) ++ [.int .i64 ((j : Nat) : Int)])) (hat : nv.ownBlock = (kv q).ownBlock ∨ ∃ b, nv.ownBlock = some b ∧ w.heap.size ≤ b)
  (hW : W2 = w6.setCell ⟨gk, q, none⟩ nv) : KidsAt R B b0 gk n (j + 1) (fun x => if x = q then nv else kv x) W2 := by
 have hK : Kept (fun k => k = gk) w6 W2 := by rw [hW]; exact kept_put w6 gk q nv
 have hkq : ∀ b, (kv q).ownBlock = some b → b0 ≤ b := fun b hb => (own_lt (h.each q hq) hb).1
 refine ⟨?_, fun x hx => ?_, fun x y b hx hy hne hb => ?_, h.old⟩
 ·rw [← map_upd, hW]
  refine own_put (own_keptS h.top hw (fun b hb e => ?_)) q nv
  have := hkq b e; cases hb; have := h.old; simp only at *; omega
 ·by_cases c : x = q
  ·subst c
   rw [if_pos rfl, kidF_here hp hh]
   simp only [List.length_append, List.length_cons, List.length_nil, Nat.zero_add, nats, List.map_append, List.map_cons, List.map_nil]
   exact own_keptS hown hK (fun b hb e => by have := own_lt hown hb; have := h.old; omega)
  ·rw [if_neg c, kidF_other hp c]
   refine own_keptS (own_keptS (h.each x hx) hw (fun b hb e => h.apart x q b hx hq c hb e)) hK (fun b hb e => ?_)
   have := own_lt (h.each x hx) hb; have := h.old; omega
 ·by_cases c : x = q
  ·rw [if_pos c] at hb
   rw [if_neg (fun e => hne (c.trans e.symm))]
   rcases hat with e | ⟨b', e, hb'⟩
   ·rw [e] at hb; exact h.apart q y b hq hy (fun e => hne (c.trans e)) hb
   ·rw [e] at hb; cases hb
    intro e2
    have := own_lt (h.each y hy) e2; omega
  ·rw [if_neg c] at hb
   by_cases d : y = q
   ·rw [if_pos d]
    rcases hat with e | ⟨b', e, hb'⟩
    ·rw [e]; exact h.apart x q b hx hq c hb
    ·rw [e]; intro e2; cases e2
     have := own_lt (h.each x hx) hb; omega
   ·rw [if_neg d]; exact h.apart x y b hx hy hne hb
theorem kidF_len (R : List Spn) (m x : Nat) : (kidF R m x).length ≤ m := by
 unfold kidF
 exact Nat.le_trans (List.length_filter_le _ _) (by simp)
open Classical in
theorem hdF_iff (R : List Spn) (x : Nat) : hdF R x = true ↔ lostF R x = true ∨ Least (pF R) x := by
 unfold hdF
 exact decide_eq_true_iff
theorem nils_map (n : Nat) : (List.range n).map (fun _ => Value.slice none 0 0) = List.replicate n (.slice none 0 0) := by
 rw [List.map_const', List.length_range]
end Go.Proofs.Ytibakmchgppndaa
