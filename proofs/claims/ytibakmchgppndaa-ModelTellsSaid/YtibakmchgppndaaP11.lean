/- ScanA, FindR, TellsP, TSameA, TSameB -/
import Derived.Test.YtibakmchgppndaaP10
/- (*Model).Scan: a page of traces. -/
namespace Go.Proofs.Ytibakmchgppndaa
open Go.RowKit

theorem traces_of_rows (a : Int) (P : List Spn) : (rowsF a P).map Prod.fst = tracesF a P := by
 unfold rowsF
 rw [List.map_map]
 simp [Function.comp_def]
theorem traces_low {a : Int} {P : List Spn} {s : Spn} (hs : TrS (P ++ [s])) (h : s.tr ≤ a) : tracesF a (P ++ [s]) = tracesF a P := by rw [← traces_of_rows, rows_low hs h, traces_of_rows]
theorem traces_last {a : Int} {P : List Spn} {s : Spn} (hs : TrS (P ++ [s])) {A : List (Int × List Spn)} {L : List Spn} (h : rowsF a P = A ++ [(s.tr, L)]) : tracesF a (P ++ [s]) = tracesF a P := by
 rw [← traces_of_rows, rows_last hs h, ← traces_of_rows, h]
 simp
theorem TrS.take {R : List Spn} (h : TrS R) (i : Nat) : TrS (R.take i) := by
 have : R = R.take i ++ R.drop i := (List.take_append_drop i R).symm
 rw [this] at h
 exact h.pre
theorem snoc_at {Y : List RowV} {q : Nat} (h : Y.length = q + 1) : ∃ B y, Y = B ++ [y] ∧ B.length = q := by
 obtain ⟨y, hy⟩ : ∃ y, Y[q]? = some y := ⟨_, List.getElem?_eq_getElem (by omega)⟩
 refine ⟨Y.take q, y, ?_, by rw [List.length_take]; omega⟩
 have := List.take_add_one (l := Y) (i := q)
 rw [hy, List.take_of_length_le (by omega)] at this
 exact this
theorem rowsF_lastL {a : Int} {P : List Spn} {A : List (Int × List Spn)} {t : Int} {L : List Spn} (h : rowsF a P = A ++ [(t, L)]) : L = ofTr t P := by
 have hm : (t, L) ∈ rowsF a P := by rw [h]; simp
 unfold rowsF at hm
 obtain ⟨u, _, hu⟩ := List.mem_map.1 hm
 cases hu
 rfl
set_option maxHeartbeats 4000000 in
set_option maxRecDepth 100000 in
theorem scan_bad {w : World} {p b : Nat} {M : List Spn} (a li now : Int) (hb : scanOk a li = false) (h : ModelAt w p b M) : Calls Try.prog 18 #[.pointer (some ⟨p, 0, none⟩), .int .i64 a, .int .i64 li, .int .i64 now] w fun e w' => e = .returned (.tuple #[.agg #[.slice none 0 0, .int .i64 0, .bool false], .int .i64 2]) ∧ Kept (fun _ => False) w w' := by
 have KA := (Kept.refl (fun _ => False) w).alloc (.cells #[.slice none 0 0, .int .i64 0, .bool false] 52)
 have N := Lib.hid (none_not p b _ (KA.cell h.cell (fun f => f)))
 clear KA h
 by_cases c0 : a < 0
 ·go_enter Try.func18, Try.ntmps18
  go_wp2_with fail
  refine N.out.mono ?_
  rintro e w4 ⟨rfl, rfl⟩
  go_wp2
  refine bodyPost_ret (v := _) (by simp [results, Try.results18, go_sem]; try rfl) rfl ?_
  exact ⟨rfl, (Kept.refl (fun _ => False) w).alloc _⟩
 ·by_cases c1 : 2147483647 < a
  ·go_enter Try.func18, Try.ntmps18
   go_wp2_with fail
   refine N.out.mono ?_
   rintro e w4 ⟨rfl, rfl⟩
   go_wp2
   refine bodyPost_ret (v := _) (by simp [results, Try.results18, go_sem]; try rfl) rfl ?_
   exact ⟨rfl, (Kept.refl (fun _ => False) w).alloc _⟩
  ·by_cases c2 : li < 1
   ·go_enter Try.func18, Try.ntmps18
    go_wp2_with fail
    refine N.out.mono ?_
    rintro e w4 ⟨rfl, rfl⟩
    go_wp2
    refine bodyPost_ret (v := _) (by simp [results, Try.results18, go_sem]; try rfl) rfl ?_
    exact ⟨rfl, (Kept.refl (fun _ => False) w).alloc _⟩
   ·have cc : 64 < li := by unfold scanOk at hb; simp at hb; omega
    go_enter Try.func18, Try.ntmps18
    go_wp2_with fail
    refine N.out.mono ?_
    rintro e w4 ⟨rfl, rfl⟩
    go_wp2
    refine bodyPost_ret (v := _) (by simp [results, Try.results18, go_sem]; try rfl) rfl ?_
    exact ⟨rfl, (Kept.refl (fun _ => False) w).alloc _⟩
set_option maxHeartbeats 16000000 in
set_option maxRecDepth 100000 in
theorem scan_all {w : World} {p b : Nat} {M : List Spn} (a li now : Int) (hb : scanOk a li = true) (h1 : 0 ≤ now) (h2 : now ≤ 4294967296) (h : ModelAt w p b M) (hM : M.length ≤ 1000000) :
  Calls Try.prog 18 #[.pointer (some ⟨p, 0, none⟩), .int .i64 a, .int .i64 li, .int .i64 now] w fun e w' => ∃ v' R, e = .returned (.tuple #[.agg #[v', .int .i64 (nextF a (pageT a li.toNat R)), .bool (moreF a li.toNat R)], .int .i64 0]) ∧ ReadsP w' v' (pageF a li.toNat R) ∧ R.Perm (liveF now M) ∧ SortedS R ∧ Kept (fun _ => False) w w' := by
 obtain ⟨i46, hi0, hz0, hz1, hz2⟩ := info_parts inf46
 obtain ⟨i37, hj0, hjz, hj1, hj2⟩ := info_parts inf37
 obtain ⟨g0, g1, g2, g3⟩ : ¬ a < 0 ∧ ¬ 2147483647 < a ∧ ¬ li < 1 ∧ ¬ 64 < li := by unfold scanOk at hb; simp at hb; omega
 have HH := Lib.hid h
 have N := Lib.hid (none_not p b _ (((Kept.refl (fun _ => False) w).alloc (.cells #[.slice none 0 0, .int .i64 0, .bool false] 52)).cell h.cell (fun f => f)))
 clear h hb
 go_enter Try.func18, Try.ntmps18
 go_wp2_with fail
 refine N.out.mono ?_
 rintro e w4 ⟨rfl, rfl⟩
 go_wp2_with fail
 obtain ⟨rb, hrb⟩ : ∃ q, w.heap.size = q := ⟨_, rfl⟩
 obtain ⟨ob, hob⟩ : ∃ q, rb + 1 = q := ⟨_, rfl⟩
 obtain ⟨W1, hW1⟩ : ∃ W, (w.alloc (.cells #[.slice none 0 0, .int .i64 0, .bool false] 52)).alloc (.cells #[.slice none 0 0, .int .i64 a, .bool false] 52) = W := ⟨_, rfl⟩
 have K1 := Lib.hid (show Kept (fun _ => False) w W1 by rw [← hW1]; exact ((Kept.refl _ w).alloc _).alloc _)
 have R0 := Lib.hid (show W1.cell? ⟨rb, 0, none⟩ = some (.slice none 0 0) by rw [← hW1, ← hrb]; simp)
 have R1 := Lib.hid (show W1.cell? ⟨rb, 1, none⟩ = some (.int .i64 0) by rw [← hW1, ← hrb]; simp)
 have R2 := Lib.hid (show W1.cell? ⟨rb, 2, none⟩ = some (.bool false) by rw [← hW1, ← hrb]; simp)
 have RF := Lib.hid (show ∀ j, W1.frozen? ⟨rb, j, none⟩ = false from fun j => by rw [← hW1, ← hrb]; simp)
 have B0 := Lib.hid (show W1.cell? ⟨ob, 0, none⟩ = some (.slice none 0 0) by rw [← hW1, ← hob, ← hrb]; simp)
 have B1 := Lib.hid (show W1.cell? ⟨ob, 1, none⟩ = some (.int .i64 a) by rw [← hW1, ← hob, ← hrb]; simp)
 have B2 := Lib.hid (show W1.cell? ⟨ob, 2, none⟩ = some (.bool false) by rw [← hW1, ← hob, ← hrb]; simp)
 have BF := Lib.hid (show ∀ j, W1.frozen? ⟨ob, j, none⟩ = false from fun j => by rw [← hW1, ← hob, ← hrb]; simp)
 have RBO := Lib.hid (show rb < ob by omega)
 have S1 := Lib.hid (show W1.heap.size = ob + 1 by rw [← hW1, ← hob, ← hrb]; simp)
 have WR := Lib.hid hrb
 rw [hW1, hrb, hob]
 have SP := Lib.hid (spans_row now h1 h2 (HH.out.keptF K1.out) (by omega : M.length ≤ 1000000000))
 clear hW1 hrb hob
 refine SP.out.mono ?_
 rintro e w3 ⟨k3, v3, RR, rfl, o3, p3, s3⟩
 obtain ⟨a3, c3, rfl⟩ := own_slice o3
 have O3 := Lib.hid o3
 have K3 := Lib.hid (keptFF K1.out k3)
 have PS := Lib.hid (And.intro p3 s3)
 have TR := Lib.hid (tr_of s3)
 have RL := Lib.hid (show RR.length ≤ 1000000 by have e1 := p3.length_eq; have e2 := live_len now M; omega)
 replace R0 := Lib.hid (k3.cell R0.out (fun f => f))
 replace R1 := Lib.hid (k3.cell R1.out (fun f => f))
 replace R2 := Lib.hid (k3.cell R2.out (fun f => f))
 replace RF := Lib.hid (fun j => k3.frozen (RF.out j) (by have := RBO.out; have := S1.out; simp only; omega) (fun f => f))
 replace BF := Lib.hid (fun j => k3.frozen (BF.out j) (by have := S1.out; simp only; omega) (fun f => f))
 replace B0 := Lib.hid (k3.cell B0.out (fun f => f))
 replace B1 := Lib.hid (k3.cell B1.out (fun f => f))
 replace B2 := Lib.hid (k3.cell B2.out (fun f => f))
 have OBT := Lib.hid (fun q (hq : (Value.slice a3 RR.length c3).ownBlock = some q) => show ¬ q = ob by have h1 := own_from o3 hq; have h2 := S1.out; omega)
 obtain ⟨m, hm⟩ : ∃ m, RR.length = m := ⟨_, rfl⟩
 rw [hm] at O3 OBT RL
 have MN := Lib.hid hm
 have OBL := Lib.hid (show ob < w3.heap.size from World.block_lt_of_cell? _ _ B0.out)
 have RLm := RL.out
 clear k3 o3 p3 s3
 rw [hm]
 clear hm
 go_wp2
 go_loopg [40] m (fun gh s wr => ∃ (i : Nat) (v : Value) (Y : List RowV), i + gh = m ∧ s = .int .i64 i ∧ (Y.length : Int) ≤ li ∧ stripR Y = rowsF a (RR.take i) ∧ RowsAt wr w3.heap.size v Y ∧ wr.cell? ⟨ob, 0, none⟩ = some v ∧ wr.cell? ⟨ob, 1, none⟩ = some (.int .i64 (nextF a (tracesF a (RR.take i)))) ∧ wr.cell? ⟨ob, 2, none⟩ = some (.bool false) ∧ (∀ j, wr.frozen? ⟨ob, j, none⟩ = false) ∧ Kept (fun q => q = ob) w3 wr)
 case atStart => exact ⟨0, _, [], by omega, by go_num, by simp; omega, rfl, RowsAt.nil _ _, B0.out, B1.out, B2.out, BF.out, Kept.refl _ _⟩
 case round =>
  obtain ⟨i, v, Y, ji, rfl, hil, hY, ry, cb0, cb1, cb2, fz, kk⟩ := hrel
  have JI := Lib.hid ji; have HY := Lib.hid hY; have RY := Lib.hid ry; have CB0 := Lib.hid cb0; have CB1 := Lib.hid cb1; have CB2 := Lib.hid cb2; have FZ := Lib.hid fz; have KK := Lib.hid kk
  obtain ⟨y, hyl⟩ : ∃ y, Y.length = y := ⟨_, rfl⟩
  have YL := Lib.hid hyl
  have YT := Lib.hid (show y = (tracesF a (RR.take i)).length by rw [← rowsF_len, ← hY, stripR_length, hyl])
  obtain ⟨ao, co, rfl⟩ := own_slice ry.own
  rw [hyl] at cb0 CB0 RY hil
  have KW := Lib.hid (kept_fresh K3.out kk (fun q e => by have := WR.out; have := RBO.out; omega))
  have i0 : (0 : Int) ≤ (i : Int) := by omega
  have kk2 := kk
  clear ji hY ry fz kk hyl
  by_cases hin : i < m
  ·have i1 : (i : Int) < (m : Int) := by omega
   have i2 : (i : Int) ≤ 1000000 := by omega
   obtain ⟨x, hx⟩ : ∃ x, RR[i]? = some x := ⟨_, List.getElem?_eq_getElem (by rw [MN.out]; exact hin)⟩
   obtain ⟨g3, rfl, hcs⟩ : ∃ g, a3 = some ⟨g, 0, none⟩ ∧ ∀ j u, (cellsS RR)[j]? = some u → w3.cell? ⟨g, j, none⟩ = some u := by
    rcases row_form O3.out with ⟨h1, h2⟩ | ⟨g, c, h1, _, _, _, hc2⟩
    ·omega
    ·cases h1; exact ⟨g, rfl, hc2⟩
   have gob3 : ¬ g3 = ob := OBT.out g3 rfl
   have rx := ReadsS.at (o := 0) (fun j u hu => by rw [Nat.zero_add]; exact kk2.cell (hcs j u hu) gob3) hx
   rw [Nat.zero_add] at rx
   obtain ⟨x0, x1, x2, x3, x4, x5, x6, x7⟩ := rx
   have TK := Lib.hid (rtake_snoc hx)
   have TR1 := Lib.hid (show TrS (RR.take i ++ [x]) by rw [← TK.out]; exact TR.out.take _)
   have CUT := Lib.hid (show RR = RR.take i ++ x :: RR.drop (i + 1) by
    have h3 := List.take_append_drop (i + 1) RR
    rw [TK.out, List.append_assoc] at h3
    exact h3.symm)
   clear hcs hx
   obtain ⟨dt, did, dp, ds, dh, dst, dd, dn⟩ := x
   simp only at x0 x1 x2 x3 x4 x5 x6 x7
   have X0 := Lib.hid x0; have X1 := Lib.hid x1; have X2 := Lib.hid x2; have X3 := Lib.hid x3; have X4 := Lib.hid x4; have X5 := Lib.hid x5; have X6 := Lib.hid x6; have X7 := Lib.hid x7
   have cbo := fun o => ((Kept.refl (fun _ => False) wr).alloc o).cell cb0 (fun f => f)
   by_cases hlow : dt ≤ a
   ·have ST := Lib.hid (rows_low TR1.out hlow)
    have ST2 := Lib.hid (traces_low TR1.out hlow)
    go_wp2
    go_roundg (m - i - 1)
    case measure => have := JI.out; omega
    case rel => exact ⟨i + 1, _, Y, by have := JI.out; omega, by go_num, by rw [YL.out]; exact hil, by rw [TK.out, ST.out]; exact HY.out, (RY.out.kept ((Kept.refl (fun _ => False) wr).alloc _) (fun _ _ f => f)), cbo _, by rw [TK.out, ST2.out]; exact ((Kept.refl (fun _ => False) wr).alloc _).cell CB1.out (fun f => f), ((Kept.refl (fun _ => False) wr).alloc _).cell CB2.out (fun f => f), fun j => ((Kept.refl (fun _ => False) wr).alloc _).frozen (FZ.out j) (show ob < wr.heap.size from World.block_lt_of_cell? _ _ CB0.out) (fun f => f), KK.out.alloc _⟩
   ·have hhi : a < dt := by omega
    by_cases hy0 : y = 0
    ·have hnl : ¬ (tracesF a (RR.take i)).getLast? = some dt := by
      have : tracesF a (RR.take i) = [] := List.eq_nil_of_length_eq_zero (by rw [← YT.out]; exact hy0)
      rw [this]; simp
     have RN := Lib.hid (rows_new (after := a) TR1.out hhi hnl)
     have z9 : ¬ (0 : Int) < (y : Int) := by omega
     have n9 : ¬ 0 < y := by omega
     have z8 : ((y : Int) == li) = false := by simp; omega
     have hsub : y < li.toNat := by omega
     clear hy0
     go_wp2
     obtain ⟨w5, hw5⟩ : ∃ W, wr.alloc (.cells #[.int .i64 dt, .int .i64 did, .int .i64 dp, .string ds, .string dh, .int .i64 dst, .int .i64 dd, .string dn] 37) = W := ⟨_, rfl⟩
     have c5 : SpanAt w5 wr.heap.size (⟨dt, did, dp, ds, dh, dst, dd, dn⟩ : Spn) := by rw [← hw5]; exact SpanAt.new (w := wr) (m := (⟨dt, did, dp, ds, dh, dst, dd, dn⟩ : Spn))
     have k5 : Kept (fun _ => False) wr w5 := by rw [← hw5]; exact (Kept.refl _ _).alloc _
     rw [hw5]
     obtain ⟨tb, htb⟩ : ∃ q, wr.heap.size = q := ⟨_, rfl⟩
     rw [htb] at c5 ⊢
     have TBE := Lib.hid htb
     have K5 := Lib.hid k5
     have y0 := c5 0 _ rfl
     have y1 := c5 1 _ rfl
     have y2 := c5 2 _ rfl
     have y3 := c5 3 _ rfl
     have y4 := c5 4 _ rfl
     have y5 := c5 5 _ rfl
     have y6 := c5 6 _ rfl
     have y7 := c5 7 _ rfl
     have Y5 := Lib.hid c5
     have c0 := k5.cell CB0.out (fun f => f)
     have c1 := k5.cell CB1.out (fun f => f)
     have c2 := k5.cell CB2.out (fun f => f)
     clear hw5 c5 k5 x0 x1 x2 x3 x4 x5 x6 x7 htb cb0 cb1 cb2 cbo
     go_quiet (fail)
     go_wp2_with (at_builtin; refine stopH ?_)
     intro _
     have K6 := Lib.hid (kept_dn K5.out nq)
     have OU := Lib.hid (show ((w5.drewN nq).alloc (Obj.cells #[.int .i64 dt, .int .i64 did, .int .i64 dp, .string ds, .string dh, .int .i64 dst, .int .i64 dd, .string dn] 37)).ownsRow wr.heap.size 37 8 (.slice (some ⟨w5.heap.size, 0, none⟩) 1 1) 1 [.int .i64 dt, .int .i64 did, .int .i64 dp, .string ds, .string dh, .int .i64 dst, .int .i64 dd, .string dn] from World.ownsRow_lit (w5.drewN nq) #[.int .i64 dt, .int .i64 did, .int .i64 dp, .string ds, .string dh, .int .i64 dst, .int .i64 dd, .string dn] 1 (by have := K5.out.size; exact this) (by decide) rfl)
     have KA := Lib.hid ((K6.out.alloc (Obj.cells #[.int .i64 dt, .int .i64 did, .int .i64 dp, .string ds, .string dh, .int .i64 dst, .int .i64 dd, .string dn] 37)).alloc (Obj.cells #[.int .i64 dt, .slice (some ⟨w5.heap.size, 0, none⟩) 1 1] 46))
     have YO := Lib.hid ((RY.out.kept KA.out (fun _ _ f => f)).own)
     have YLY := YL.out
     rw [YLY] at YO
     refine wpList_append_own _ rfl _ _ 50 rfl w3.heap.size 46 i46 _ 2 32 Try.underlying50 hi0 hz0 hz1 hz2 rfl (by decide) (.slice ao y co) y _ rfl YO.out ⟨w5.heap.size + 1, 0, none⟩ 1 1 [.int .i64 dt, (.slice (some ⟨w5.heap.size, 0, none⟩) 1 1)] rfl rfl (World.news_of_block (heap_second (w5.drewN nq) _ _)) ?qa ?qb ?qc ?qd ?_
     case qa => intro u hu; simp at hu; rcases hu with rfl | rfl <;> rfl
     case qb => unfold maxLen; omega
     case qc => omega
     case qd => have h3 := KA.out.size; have h4 := KK.out.size; omega
     intro v8 w8 own8 hg8 hn8
     obtain ⟨ao8, co8, rfl⟩ := own_slice own8
     have K8 := Lib.hid (show Kept (fun q => (Value.slice ao y co).ownBlock = some q) wr w8 from (KA.out.mono (fun _ _ f => f.elim) : Kept (fun q => (Value.slice ao y co).ownBlock = some q) wr _).grown hg8 (fun q hq _ => hq))
     have OU8 := Lib.hid (own_kept (own_kept OU.out ((Kept.refl (fun _ => False) _).alloc (Obj.cells #[.int .i64 dt, .slice (some ⟨w5.heap.size, 0, none⟩) 1 1] 46)) (fun _ _ f => f)) (grown_kept hg8) (fun q hq e => by have h1 := own_from OU.out hq; have h2 := own_lt2 RY.out.own e; omega))
     have O8 := Lib.hid own8
     have nob : ¬ (Value.slice ao y co).ownBlock = some ob := fun e => by have h1 := own_from RY.out.own e; have h2 := OBL.out; omega
     have ntb : ¬ (Value.slice ao y co).ownBlock = some tb := fun e => by have h1 := own_lt2 RY.out.own e; have h2 := TBE.out; omega
     have d0 := K8.out.cell CB0.out nob
     have d1 := K8.out.cell CB1.out nob
     have d2 := K8.out.cell CB2.out nob
     have d3 := (KA.out.mono (fun _ _ f => f.elim) |>.trans (Kept.refl (fun _ => False) _) (fun _ _ f => f) (fun _ _ f => f.elim) : Kept (fun _ => False) wr _)
     clear d3
     have D3 := Lib.hid (show w8.cell? ⟨tb, 0, none⟩ = some (.int .i64 dt) from (grown_kept hg8).cell ((((kept_dn (Kept.refl (fun _ => False) w5) nq).alloc (Obj.cells #[.int .i64 dt, .int .i64 did, .int .i64 dp, .string ds, .string dh, .int .i64 dst, .int .i64 dd, .string dn] 37)).alloc (Obj.cells #[.int .i64 dt, .slice (some ⟨w5.heap.size, 0, none⟩) 1 1] 46)).cell (Y5.out 0 _ rfl) (fun f => f)) ntb)
     have d3 := D3.out
     have l0 := World.block_lt_of_cell? _ _ CB0.out
     have tbo : ¬ tb = ob := fun e => by have := TBE.out; simp only at l0; omega
     have f0 := K8.out.frozen (FZ.out 0) l0 nob
     have f1 := K8.out.frozen (FZ.out 1) l0 nob
     have D0 := Lib.hid d0; have D1 := Lib.hid d1; have D2 := Lib.hid d2
     have F8 := Lib.hid (fun j => K8.out.frozen (FZ.out j) (show ob < wr.heap.size from l0) nob)
     clear own8 hg8 hn8 l0 nob ntb c0 c1 c2 y0 y1 y2 y3 y4 y5 y6 y7
     go_wp2
     have KS := Lib.hid (((Kept.refl (fun q => q = ob) w8).setCell (fun _ => rfl) (.slice ao8 (y + 1) co8) : Kept (fun q => q = ob) w8 (w8.setCell ⟨ob, 0, none⟩ _)).setCell (p := ⟨ob, 1, none⟩) (fun _ => rfl) (.int .i64 dt))
     have s0 := World.cell?_setCell_same w8 ⟨ob, 0, none⟩ (.slice ao8 (y + 1) co8) D0.out
     have s1 : (w8.setCell ⟨ob, 0, none⟩ (.slice ao8 (y + 1) co8)).cell? ⟨ob, 1, none⟩ = some (.int .i64 (nextF a (tracesF a (RR.take i)))) := by rw [World.cell?_setCell_other _ _ _ _ (by simp)]; exact D1.out
     have s2 : (w8.setCell ⟨ob, 0, none⟩ (.slice ao8 (y + 1) co8)).cell? ⟨ob, 2, none⟩ = some (.bool false) := by rw [World.cell?_setCell_other _ _ _ _ (by simp)]; exact D2.out
     have t0 : ((w8.setCell ⟨ob, 0, none⟩ (.slice ao8 (y + 1) co8)).setCell ⟨ob, 1, none⟩ (.int .i64 dt)).cell? ⟨ob, 0, none⟩ = some (.slice ao8 (y + 1) co8) := by rw [World.cell?_setCell_other _ _ _ _ (by simp)]; exact s0
     have t1 := World.cell?_setCell_same (w8.setCell ⟨ob, 0, none⟩ (.slice ao8 (y + 1) co8)) ⟨ob, 1, none⟩ (.int .i64 dt) s1
     have t2 : ((w8.setCell ⟨ob, 0, none⟩ (.slice ao8 (y + 1) co8)).setCell ⟨ob, 1, none⟩ (.int .i64 dt)).cell? ⟨ob, 2, none⟩ = some (.bool false) := by rw [World.cell?_setCell_other _ _ _ _ (by simp)]; exact s2
     go_roundg (m - i - 1)
     case measure => have := JI.out; omega
     case rel =>
      have e1 : nextF a (tracesF a (RR.take (i + 1))) = dt := by rw [TK.out, RN.out.2]; simp [nextF]
      have o8 := O8.out
      have RP := RowsAt.push (t := dt) (u := (.slice (some ⟨w5.heap.size, 0, none⟩) 1 1)) (L := [(⟨dt, did, dp, ds, dh, dst, dd, dn⟩ : Spn)]) RY.out K8.out (by rw [YL.out]; exact o8) (by have h := own_low OU8.out KK.out.size; simpa [cellsS, Spn.cells] using h) (fun q hq => own_from OU.out hq)
      refine ⟨i + 1, _, Y ++ [⟨dt, (.slice (some ⟨w5.heap.size, 0, none⟩) 1 1), [(⟨dt, did, dp, ds, dh, dst, dd, dn⟩ : Spn)]⟩], by have := JI.out; omega, by go_num, by rw [List.length_append, YL.out]; simp; omega, ?_, RP.kept KS.out (fun q hq e => by have := OBL.out; omega), t0, by rw [e1]; exact t1, t2, fun j => ?_, ?_⟩
      ·rw [stripR_append, HY.out, TK.out, RN.out.1]; rfl
      ·rw [World.frozen?_setCell, World.frozen?_setCell]; exact F8.out j
      ·exact (KK.out.trans K8.out (fun _ _ h => h) (fun q hq e => by have := own_from RY.out.own e; omega) : Kept (fun q => q = ob) w3 w8).trans KS.out (fun _ _ h => h) (fun _ _ h => h)
    ·obtain ⟨q, hq⟩ : ∃ q, y = q + 1 := ⟨y - 1, by omega⟩
     obtain ⟨A, yy, hYA, hAl⟩ := snoc_at (show Y.length = q + 1 by rw [YL.out, hq])
     obtain ⟨yt, yv, yL⟩ := yy
     subst hYA
     have AL := Lib.hid hAl
     obtain ⟨g, rfl, _⟩ : ∃ g, ao = some ⟨g, 0, none⟩ ∧ True := by
      rcases row_form RY.out.own with ⟨_, h2⟩ | ⟨g, c, h1, _⟩
      ·have := YL.out; omega
      ·cases h1; exact ⟨g, rfl, trivial⟩
     have gob : ¬ g = ob := fun e => by have h1 := own_from RY.out.own (q := g) rfl; have h2 := OBL.out; omega
     have hcy := cellsR_at (A ++ [⟨yt, yv, yL⟩]) q ⟨yt, yv, yL⟩ (by rw [← hAl]; simp)
     have cy0 := RY.out.own.cells (g := g) rfl _ _ hcy.1
     have cy1 := RY.out.own.cells (g := g) rfl _ _ hcy.2
     rw [add_mid, Nat.zero_add] at cy0 cy1
     have yi0 : (0 : Int) ≤ (q : Int) := by omega
     have yi1 : (q : Int) < (y : Int) := by omega
     have z9 : (0 : Int) < (y : Int) := by omega
     have n9 : 0 < y := by omega
     have e1 : IntKind.i64.wrap ((y : Int) - 1) = (q : Int) := by rw [show (y : Int) - 1 = (q : Int) by omega]; exact IntWalk.i64_in _ (by have := hil; omega)
     have RL1 := Lib.hid (rowsF_last (show rowsF a (RR.take i) = stripR A ++ [(yt, yL)] by rw [← HY.out, stripR_append]; rfl))
     have HQ := Lib.hid hq
     clear hcy hq hAl
     by_cases hyt : yt = dt
     ·have hyt' := hyt.symm
      subst hyt'
      clear hyt
      have d1 : (dt == dt) = true := by simp
      have HRW := Lib.hid (show rowsF a (RR.take i) = stripR A ++ [(dt, yL)] by rw [← HY.out, stripR_append]; rfl)
      have ST := Lib.hid (rows_last (s := ⟨dt, did, dp, ds, dh, dst, dd, dn⟩) TR1.out HRW.out)
      have ST2 := Lib.hid (traces_last (s := ⟨dt, did, dp, ds, dh, dst, dd, dn⟩) TR1.out HRW.out)
      have ye := RY.out.each ⟨dt, yv, yL⟩ (List.mem_append_right _ List.mem_cons_self)
      simp only at ye
      obtain ⟨n, hn⟩ : ∃ n, yL.length = n := ⟨_, rfl⟩
      have NL := Lib.hid hn
      have hnl : n ≤ 1000000 := by
       have h3 := rowsF_lastL HRW.out
       have h4 := ofTr_le dt (RR.take i)
       rw [← h3, List.length_take, MN.out, hn] at h4
       omega
      rw [hn] at ye
      obtain ⟨ya, co2, rfl⟩ := own_slice ye
      have YE := Lib.hid ye
      clear hn ye
      go_wp2
      obtain ⟨w5, hw5⟩ : ∃ W, wr.alloc (.cells #[.int .i64 dt, .int .i64 did, .int .i64 dp, .string ds, .string dh, .int .i64 dst, .int .i64 dd, .string dn] 37) = W := ⟨_, rfl⟩
      have c5 : SpanAt w5 wr.heap.size (⟨dt, did, dp, ds, dh, dst, dd, dn⟩ : Spn) := by rw [← hw5]; exact SpanAt.new (w := wr) (m := (⟨dt, did, dp, ds, dh, dst, dd, dn⟩ : Spn))
      have k5 : Kept (fun _ => False) wr w5 := by rw [← hw5]; exact (Kept.refl _ _).alloc _
      rw [hw5]
      obtain ⟨tb, htb⟩ : ∃ q, wr.heap.size = q := ⟨_, rfl⟩
      rw [htb] at c5 ⊢
      have TBE := Lib.hid htb
      have K5 := Lib.hid k5
      have y0 := c5 0 _ rfl
      have y1 := c5 1 _ rfl
      have y2 := c5 2 _ rfl
      have y3 := c5 3 _ rfl
      have y4 := c5 4 _ rfl
      have y5 := c5 5 _ rfl
      have y6 := c5 6 _ rfl
      have y7 := c5 7 _ rfl
      have Y5 := Lib.hid c5
      have c0 := k5.cell CB0.out (fun f => f)
      have c1 := k5.cell CB1.out (fun f => f)
      have c2 := k5.cell CB2.out (fun f => f)
      replace cy0 := k5.cell cy0 (fun f => f)
      replace cy1 := k5.cell cy1 (fun f => f)
      clear hw5 c5 k5 x0 x1 x2 x3 x4 x5 x6 x7 htb cb0 cb1 cb2 cbo
      go_quiet (fail)
      go_wp2
      obtain ⟨wd, hwd⟩ : ∃ W, w5.drewN nq = W := ⟨_, rfl⟩
      have kd : Kept (fun _ => False) w5 wd := by rw [← hwd]; exact kept_dn (Kept.refl _ _) nq
      rw [hwd]
      replace c0 := kd.cell c0 (fun f => f)
      replace cy1 := kd.cell cy1 (fun f => f)
      replace y0 := kd.cell y0 (fun f => f)
      replace y1 := kd.cell y1 (fun f => f)
      replace y2 := kd.cell y2 (fun f => f)
      replace y3 := kd.cell y3 (fun f => f)
      replace y4 := kd.cell y4 (fun f => f)
      replace y5 := kd.cell y5 (fun f => f)
      replace y6 := kd.cell y6 (fun f => f)
      replace y7 := kd.cell y7 (fun f => f)
      replace K5 := Lib.hid (keptFF K5.out kd)
      clear hwd kd
      refine wp_region_last 16 (fun w' => (w'.cell? ⟨ob, 0, none⟩ = some (.slice (some ⟨g, 0, none⟩) y co) ∧ w'.cell? ⟨g, q * 2 + 1, none⟩ = some (.slice ya n co2)) ∧ (w'.cell? ⟨tb, 0, none⟩ = some (.int .i64 dt) ∧ w'.cell? ⟨tb, 1, none⟩ = some (.int .i64 did) ∧ w'.cell? ⟨tb, 2, none⟩ = some (.int .i64 dp) ∧ w'.cell? ⟨tb, 3, none⟩ = some (.string ds) ∧ w'.cell? ⟨tb, 4, none⟩ = some (.string dh) ∧ w'.cell? ⟨tb, 5, none⟩ = some (.int .i64 dst) ∧ w'.cell? ⟨tb, 6, none⟩ = some (.int .i64 dd) ∧ w'.cell? ⟨tb, 7, none⟩ = some (.string dn))) (by kernel_rfl) ?_
      have hHeld := And.intro (And.intro c0 cy1) (show (wd.cell? ⟨tb, 0, none⟩ = some (.int .i64 dt) ∧ wd.cell? ⟨tb, 1, none⟩ = some (.int .i64 did) ∧ wd.cell? ⟨tb, 2, none⟩ = some (.int .i64 dp) ∧ wd.cell? ⟨tb, 3, none⟩ = some (.string ds) ∧ wd.cell? ⟨tb, 4, none⟩ = some (.string dh) ∧ wd.cell? ⟨tb, 5, none⟩ = some (.int .i64 dst) ∧ wd.cell? ⟨tb, 6, none⟩ = some (.int .i64 dd) ∧ wd.cell? ⟨tb, 7, none⟩ = some (.string dn)) from ⟨y0, y1, y2, y3, y4, y5, y6, y7⟩)
      simp only [List.size_toArray, List.length_cons, List.length_nil, Nat.zero_add, Nat.reduceAdd]
      refine tF (v := ?_) 0 opAt0 ?_ hHeld ?_
      case refine_2 => (intro w hSw; (try dsimp only at hSw); obtain ⟨⟨xa, xb⟩, x0, x1, x2, x3, x4, x5, x6, x7⟩ := hSw; go_simp; all_goals (with_reducible rfl))
      (try simp only [Act.put]); try simp only [z2, List.set]
      refine tF (v := ?_) 1 opAt1 ?_ hHeld ?_
      case refine_2 => (intro w hSw; (try dsimp only at hSw); obtain ⟨⟨xa, xb⟩, x0, x1, x2, x3, x4, x5, x6, x7⟩ := hSw; go_simp; all_goals (with_reducible rfl))
      (try simp only [Act.put]); try simp only [z2, List.set]
      refine tF (v := ?_) 2 opAt2 ?_ hHeld ?_
      case refine_2 => (intro w hSw; (try dsimp only at hSw); obtain ⟨⟨xa, xb⟩, x0, x1, x2, x3, x4, x5, x6, x7⟩ := hSw; go_simp; all_goals (with_reducible rfl))
      (try simp only [Act.put]); try simp only [z2, List.set]
      refine tF (v := ?_) 3 opAt3 ?_ hHeld ?_
      case refine_2 => (intro w hSw; (try dsimp only at hSw); obtain ⟨⟨xa, xb⟩, x0, x1, x2, x3, x4, x5, x6, x7⟩ := hSw; go_simp; all_goals (with_reducible rfl))
      (try simp only [Act.put]); try simp only [z2, List.set]
      refine tF (v := ?_) 4 opAt4 ?_ hHeld ?_
      case refine_2 => (intro w hSw; (try dsimp only at hSw); obtain ⟨⟨xa, xb⟩, x0, x1, x2, x3, x4, x5, x6, x7⟩ := hSw; go_simp; all_goals (with_reducible rfl))
      (try simp only [Act.put]); try simp only [z2, List.set]
      refine tF (v := ?_) 5 opAt5 ?_ hHeld ?_
      case refine_2 => (intro w hSw; (try dsimp only at hSw); obtain ⟨⟨xa, xb⟩, x0, x1, x2, x3, x4, x5, x6, x7⟩ := hSw; go_simp; all_goals (with_reducible rfl))
      (try simp only [Act.put]); try simp only [z2, List.set]
      refine tF (v := ?_) 6 opAt6 ?_ hHeld ?_
      case refine_2 => (intro w hSw; (try dsimp only at hSw); obtain ⟨⟨xa, xb⟩, x0, x1, x2, x3, x4, x5, x6, x7⟩ := hSw; go_simp; all_goals (with_reducible rfl))
      (try simp only [Act.put]); try simp only [z2, List.set]
      refine tF (v := ?_) 7 opAt7 ?_ hHeld ?_
      case refine_2 => (intro w hSw; (try dsimp only at hSw); obtain ⟨⟨xa, xb⟩, x0, x1, x2, x3, x4, x5, x6, x7⟩ := hSw; go_simp; all_goals (with_reducible rfl))
      (try simp only [Act.put]); try simp only [z2, List.set]
      refine tF (v := ?_) 8 opAt8 ?_ hHeld ?_
      case refine_2 => (intro w hSw; (try dsimp only at hSw); obtain ⟨⟨xa, xb⟩, x0, x1, x2, x3, x4, x5, x6, x7⟩ := hSw; go_simp; all_goals (with_reducible rfl))
      (try simp only [Act.put]); try simp only [z2, List.set]
      refine tF (v := ?_) 9 opAt9 ?_ hHeld ?_
      case refine_2 => (intro w hSw; (try dsimp only at hSw); obtain ⟨⟨xa, xb⟩, x0, x1, x2, x3, x4, x5, x6, x7⟩ := hSw; go_simp; all_goals (with_reducible rfl))
      (try simp only [Act.put]); try simp only [z2, List.set]
      refine tF (v := ?_) 10 opAt10 ?_ hHeld ?_
      case refine_2 => (intro w hSw; (try dsimp only at hSw); obtain ⟨⟨xa, xb⟩, x0, x1, x2, x3, x4, x5, x6, x7⟩ := hSw; go_simp; all_goals (with_reducible rfl))
      (try simp only [Act.put]); try simp only [z2, List.set]
      refine tF (v := ?_) 11 opAt11 ?_ hHeld ?_
      case refine_2 => (intro w hSw; (try dsimp only at hSw); obtain ⟨⟨xa, xb⟩, x0, x1, x2, x3, x4, x5, x6, x7⟩ := hSw; go_simp; all_goals (with_reducible rfl))
      (try simp only [Act.put]); try simp only [z2, List.set]
      refine next1 12 (by kernel_rfl) opAt12 fun K' hK => ?_
      go_simp
      obtain ⟨w6, hw6⟩ : ∃ W, (wd.alloc (.cells #[.int .i64 dt, .int .i64 did, .int .i64 dp, .string ds, .string dh, .int .i64 dst, .int .i64 dd, .string dn] 37)).drew = W := ⟨_, rfl⟩
      have k6 : Kept (fun _ => False) wd w6 := by rw [← hw6]; exact ((Kept.refl (fun _ => False) wd).alloc _).drew
      have NW := Lib.hid (show ∀ j u, (⟨dt, did, dp, ds, dh, dst, dd, dn⟩ : Spn).cells[j]? = some u → w6.cell? ((⟨wd.heap.size, 0, none⟩ : Addr).add j) = some u from by rw [← hw6]; exact World.news_of_block (heap_alloc_new wd _))
      rw [hw6]
      clear hw6
      have K6 := Lib.hid k6
      clear k6
      have hHeld := And.intro (And.intro (K6.out.cell hHeld.1.1 (fun f => f)) (K6.out.cell hHeld.1.2 (fun f => f))) (show (w6.cell? ⟨tb, 0, none⟩ = some (.int .i64 dt) ∧ w6.cell? ⟨tb, 1, none⟩ = some (.int .i64 did) ∧ w6.cell? ⟨tb, 2, none⟩ = some (.int .i64 dp) ∧ w6.cell? ⟨tb, 3, none⟩ = some (.string ds) ∧ w6.cell? ⟨tb, 4, none⟩ = some (.string dh) ∧ w6.cell? ⟨tb, 5, none⟩ = some (.int .i64 dst) ∧ w6.cell? ⟨tb, 6, none⟩ = some (.int .i64 dd) ∧ w6.cell? ⟨tb, 7, none⟩ = some (.string dn)) from ⟨K6.out.cell hHeld.2.1 (fun f => f), K6.out.cell hHeld.2.2.1 (fun f => f), K6.out.cell hHeld.2.2.2.1 (fun f => f), K6.out.cell hHeld.2.2.2.2.1 (fun f => f), K6.out.cell hHeld.2.2.2.2.2.1 (fun f => f), K6.out.cell hHeld.2.2.2.2.2.2.1 (fun f => f), K6.out.cell hHeld.2.2.2.2.2.2.2.1 (fun f => f), K6.out.cell hHeld.2.2.2.2.2.2.2.2 (fun f => f)⟩)
      refine hK _ _ ⟨fun _ => hHeld, ?_⟩
      clear hK K'
      (try simp only [Act.put]); try simp only [z2, List.set]
      refine next1 13 (by kernel_rfl) opAt13 fun K' hK => ?_
      refine step_app (by rfl) _ _ 27 (by rfl) w3.heap.size 37 i37 _ 8 88 Try.underlying27 hj0 hjz hj1 hj2 (by rfl) (by decide) (.slice ya n co2) n _ (by rfl) (own_kept YE.out (keptFF K5.out K6.out) (fun _ _ f => f)) ⟨wd.heap.size, 0, none⟩ 1 1 (⟨dt, did, dp, ds, dh, dst, dd, dn⟩ : Spn).cells (by rfl) (by rfl) NW.out (fun u hu => by simp [Spn.cells] at hu; rcases hu with rfl | rfl | rfl | rfl | rfl | rfl | rfl | rfl <;> rfl) (by unfold maxLen; omega) (by omega) (by have h1 := K6.out.size; have h2 := KK.out.size; have h3 := K5.out.size; omega) ?_
      intro ao7 cap7 w7 own7 gr7 at7
      have K7 := Lib.hid (show Kept (fun q => (Value.slice ya n co2).ownBlock = some q) w6 w7 from (grown_kept gr7).mono (fun _ _ e => e))
      have nob : ¬ (Value.slice ya n co2).ownBlock = some ob := fun e => by have := own_from YE.out e; have := OBL.out; omega
      have ngb : ¬ (Value.slice ya n co2).ownBlock = some g := fun e => own_types RY.out.own YE.out (by decide) (q := g) rfl e
      have ntb : ¬ (Value.slice ya n co2).ownBlock = some tb := fun e => by have := own_lt2 YE.out e; have := TBE.out; omega
      have O7 := Lib.hid own7
      have A7 := Lib.hid (show ∀ q, (Value.slice ao7 (n + 1) cap7).ownBlock = some q → (Value.slice ya n co2).ownBlock = some q ∨ wr.heap.size ≤ q from fun q hq => by rcases at7 with h | h; exact .inl (h ▸ hq); rw [hq] at h; have e := Option.some.inj h; have h1 := K6.out.size; have h2 := K5.out.size; exact .inr (by omega))
      clear own7 gr7 at7
      have hHeld := And.intro (And.intro (K7.out.cell hHeld.1.1 nob) (K7.out.cell hHeld.1.2 ngb)) (show (w7.cell? ⟨tb, 0, none⟩ = some (.int .i64 dt) ∧ w7.cell? ⟨tb, 1, none⟩ = some (.int .i64 did) ∧ w7.cell? ⟨tb, 2, none⟩ = some (.int .i64 dp) ∧ w7.cell? ⟨tb, 3, none⟩ = some (.string ds) ∧ w7.cell? ⟨tb, 4, none⟩ = some (.string dh) ∧ w7.cell? ⟨tb, 5, none⟩ = some (.int .i64 dst) ∧ w7.cell? ⟨tb, 6, none⟩ = some (.int .i64 dd) ∧ w7.cell? ⟨tb, 7, none⟩ = some (.string dn)) from ⟨K7.out.cell hHeld.2.1 ntb, K7.out.cell hHeld.2.2.1 ntb, K7.out.cell hHeld.2.2.2.1 ntb, K7.out.cell hHeld.2.2.2.2.1 ntb, K7.out.cell hHeld.2.2.2.2.2.1 ntb, K7.out.cell hHeld.2.2.2.2.2.2.1 ntb, K7.out.cell hHeld.2.2.2.2.2.2.2.1 ntb, K7.out.cell hHeld.2.2.2.2.2.2.2.2 ntb⟩)
      refine hK _ _ ⟨fun _ => hHeld, ?_⟩
      clear hK K'
      (try simp only [Act.put]); try simp only [z2, List.set]
      refine next1 14 (by kernel_rfl) opAt14 fun K' hK => ?_
      go_simp
      refine hK _ _ ⟨fun _ => hHeld, ?_⟩
      clear hK K'
      (try simp only [Act.put]); try simp only [z2, List.set]
      refine next1 15 (by kernel_rfl) opAt15 fun K' hK => ?_
      go_simp
      refine hK _ _ ⟨fun _ => hHeld, ?_⟩
      clear hK K'
      (try simp only [Act.put]); try simp only [z2, List.set]
      refine next1 16 (by kernel_rfl) opAt16 fun K' hK => ?_
      have oy7 := own_kept RY.out.own (keptFF K5.out K6.out |>.mono (fun _ _ f => f.elim) |>.trans K7.out (fun _ _ e => e) (fun _ _ e => e) : Kept (fun q => (Value.slice ya n co2).ownBlock = some q) wr w7) (fun q hq e => by cases hq; exact ngb e)
      rw [YL.out] at oy7
      have fz7 : w7.frozen? ⟨g, q * 2 + 1, none⟩ = false := oy7.frozenAt _
      clear oy7
      refine step_store1 (by rfl) 27 _ _ (by rfl) g (q * 2 + 1) (.slice ao7 (n + 1) cap7) (by rfl) (by rfl) (by rw [hHeld.1.2]; rfl) fz7 sz27 rfl rfl ?_
      intro W2 hW2
      have K57 := Lib.hid (((keptFF K5.out K6.out).mono (fun _ _ f => f.elim) : Kept (fun q => (Value.slice ya n co2).ownBlock = some q) wr w6).trans K7.out (fun _ _ e => e) (fun _ _ e => e) : Kept (fun q => (Value.slice ya n co2).ownBlock = some q) wr w7)
      have KP := Lib.hid (show Kept (fun k => k = g) w7 W2 from by rw [hW2]; exact (Kept.refl (fun k => k = g) w7).setCell (fun _ => rfl) _)
      have RG := Lib.hid (show RowsAt W2 w3.heap.size (.slice (some ⟨g, 0, none⟩) y co) (A ++ [⟨dt, .slice ao7 (n + 1) cap7, yL ++ [(⟨dt, did, dp, ds, dh, dst, dd, dn⟩ : Spn)]⟩]) from by rw [hW2, show q * 2 + 1 = A.length * 2 + 1 by rw [AL.out]]; exact RowsAt.grow RY.out K57.out (by rw [List.length_append, NL.out, cellsS_append, show cellsS [(⟨dt, did, dp, ds, dh, dst, dd, dn⟩ : Spn)] = (⟨dt, did, dp, ds, dh, dst, dd, dn⟩ : Spn).cells from by simp [cellsS]]; exact O7.out) A7.out)
      have d0 := KP.out.cell (K57.out.cell CB0.out nob) (fun e => gob e.symm)
      have d1 := KP.out.cell (K57.out.cell CB1.out nob) (fun e => gob e.symm)
      have d2 := KP.out.cell (K57.out.cell CB2.out nob) (fun e => gob e.symm)
      have l0 := World.block_lt_of_cell? _ _ CB0.out
      have FZ2 := Lib.hid (fun j => KP.out.frozen (K57.out.frozen (FZ.out j) (show ob < wr.heap.size from l0) nob) (show ob < w7.heap.size from by have := K57.out.size; simp only at l0; omega) (fun e => gob e.symm))
      have KW2 := Lib.hid ((KK.out.trans K57.out (fun _ _ h => h) (fun q hq e => by have := own_from YE.out e; omega) : Kept (fun q => q = ob) w3 w7).trans KP.out (fun _ _ h => h) (fun q hq e => by have h1 := own_from RY.out.own (q := g) rfl; omega))
      clear hW2 fz7
      refine hK _ _ ⟨fun h => absurd rfl h, ?_⟩
      clear hK K'
      (try simp only [Act.put]); try simp only [z2, List.set]
      refine wpAnyF_done (by kernel_rfl) ?_ _
      have D0 := Lib.hid d0; have D1 := Lib.hid d1; have D2 := Lib.hid d2
      clear hHeld nob ngb ntb d0 d1 d2 l0 c0 c1 c2 cy0 cy1
      go_wp2
      go_roundg (m - i - 1)
      case measure => have := JI.out; omega
      case rel =>
       have hl9 : (A ++ [(⟨dt, .slice ao7 (n + 1) cap7, yL ++ [(⟨dt, did, dp, ds, dh, dst, dd, dn⟩ : Spn)]⟩ : RowV)]).length = y := by rw [List.length_append, AL.out, HQ.out]; rfl
       exact ⟨i + 1, _, A ++ [⟨dt, .slice ao7 (n + 1) cap7, yL ++ [(⟨dt, did, dp, ds, dh, dst, dd, dn⟩ : Spn)]⟩], by have := JI.out; omega, by go_num, by rw [hl9]; exact hil, by rw [TK.out, ST.out, stripR_append]; rfl, RG.out, D0.out, by rw [TK.out, ST2.out]; exact D1.out, D2.out, FZ2.out, KW2.out⟩
     ·have d1 : (yt == dt) = false := by simp [hyt]
      have hnl : ¬ (tracesF a (RR.take i)).getLast? = some dt := by rw [RL1.out]; intro e; exact hyt (Option.some.inj e)
      by_cases hyl : (y : Int) = li
      ·have z8 : ((y : Int) == li) = true := by simp [hyl]
       have PC := Lib.hid (page_cut (limit := li.toNat) (after := a) TR.out CUT.out (by rw [← YT.out]; omega) hhi hnl)
       clear hyl
       go_wp2
       obtain ⟨w5, hw5⟩ : ∃ W, wr.alloc (.cells #[.int .i64 dt, .int .i64 did, .int .i64 dp, .string ds, .string dh, .int .i64 dst, .int .i64 dd, .string dn] 37) = W := ⟨_, rfl⟩
       have c5 : SpanAt w5 wr.heap.size (⟨dt, did, dp, ds, dh, dst, dd, dn⟩ : Spn) := by rw [← hw5]; exact SpanAt.new (w := wr) (m := (⟨dt, did, dp, ds, dh, dst, dd, dn⟩ : Spn))
       have k5 : Kept (fun _ => False) wr w5 := by rw [← hw5]; exact (Kept.refl _ _).alloc _
       rw [hw5]
       obtain ⟨tb, htb⟩ : ∃ q, wr.heap.size = q := ⟨_, rfl⟩
       rw [htb] at c5 ⊢
       have TBE := Lib.hid htb
       have K5 := Lib.hid k5
       have y0 := c5 0 _ rfl
       have y1 := c5 1 _ rfl
       have y2 := c5 2 _ rfl
       have y3 := c5 3 _ rfl
       have y4 := c5 4 _ rfl
       have y5 := c5 5 _ rfl
       have y6 := c5 6 _ rfl
       have y7 := c5 7 _ rfl
       have Y5 := Lib.hid c5
       have c0 := k5.cell CB0.out (fun f => f)
       have c1 := k5.cell CB1.out (fun f => f)
       have c2 := k5.cell CB2.out (fun f => f)
       replace cy0 := k5.cell cy0 (fun f => f)
       replace cy1 := k5.cell cy1 (fun f => f)
       clear hw5 c5 k5 x0 x1 x2 x3 x4 x5 x6 x7 htb cb0 cb1 cb2 cbo
       go_quiet (fail)
       obtain ⟨wd, hwd⟩ : ∃ W, w5.drewN nq = W := ⟨_, rfl⟩
       have kd : Kept (fun _ => False) w5 wd := by rw [← hwd]; exact kept_dn (Kept.refl _ _) nq
       rw [hwd]
       have KD := Lib.hid (keptFF K5.out kd)
       clear hwd kd
       have rbo : ¬ rb = ob := by have := RBO.out; omega
       have r0 := kk2.cell R0.out rbo
       have r1 := kk2.cell R1.out rbo
       have r2 := kk2.cell R2.out rbo
       have rf0 := kk2.frozen (RF.out 0) (World.block_lt_of_cell? _ _ R0.out) rbo
       have rf1 := kk2.frozen (RF.out 1) (World.block_lt_of_cell? _ _ R1.out) rbo
       have rf2 := kk2.frozen (RF.out 2) (World.block_lt_of_cell? _ _ R2.out) rbo
       replace r0 := KD.out.cell r0 (fun f => f)
       replace r1 := KD.out.cell r1 (fun f => f)
       replace r2 := KD.out.cell r2 (fun f => f)
       replace rf0 := KD.out.frozen rf0 (World.block_lt_of_cell? _ _ (kk2.cell R0.out rbo)) (fun f => f)
       replace rf1 := KD.out.frozen rf1 (World.block_lt_of_cell? _ _ (kk2.cell R1.out rbo)) (fun f => f)
       replace rf2 := KD.out.frozen rf2 (World.block_lt_of_cell? _ _ (kk2.cell R2.out rbo)) (fun f => f)
       have l0 := World.block_lt_of_cell? _ _ CB0.out
       replace c0 := KD.out.cell CB0.out (fun f => f)
       replace c1 := KD.out.cell CB1.out (fun f => f)
       replace c2 := KD.out.cell CB2.out (fun f => f)
       have f2 := KD.out.frozen (FZ.out 2) l0 (fun f => f)
       clear kk2 y0 y1 y2 y3 y4 y5 y6 y7 cy0 cy1 l0
       go_wp2
       obtain ⟨w9, hw9⟩ : ∃ W, wd.setCell ⟨ob, 2, none⟩ (.bool true) = W := ⟨_, rfl⟩
       have KS0 := Lib.hid (show Kept (fun q => q = ob) wd w9 by rw [← hw9]; exact (Kept.refl (fun q => q = ob) _).setCell (fun _ => rfl) _)
       have KS := Lib.hid ((KD.out.mono (fun _ _ f => f.elim) : Kept (fun q => q = ob) wr _).trans KS0.out (fun _ _ h => h) (fun _ _ h => h))
       rw [hw9]
       obtain ⟨s0, s1, s2, ks⟩ := box3 (.slice (some ⟨g, 0, none⟩) y co) (.int .i64 (nextF a (tracesF a (RR.take i)))) (.bool true) (KS0.out.cell r0 rbo) (KS0.out.cell r1 rbo) (KS0.out.cell r2 rbo)
       refine bodyPost_ret (v := _) (by simp [results, Try.results18, go_sem, s0, s1, s2]; try rfl) rfl ?_
       have KF := kept_fresh KW.out KS.out (fun q e => by have := WR.out; have := RBO.out; omega)
       refine ⟨(.slice (some ⟨g, 0, none⟩) y co), RR, ?_, ?_, PS.out.1, PS.out.2, kept_fresh KF ks (fun q e => by have := WR.out; omega)⟩
       ·rw [PC.out.1, PC.out.2.2]
       ·have RF9 := (RY.out.kept KS.out (fun q hq e => by have := OBL.out; omega)).kept ks (fun q hq e => by have := OBL.out; have := RBO.out; omega)
        have h9 := ReadsP.of_rows RF9
        have e9 := HY.out
        rw [← PC.out.2.1] at e9
        rw [e9] at h9
        exact h9
      ·have z8 : ((y : Int) == li) = false := by simp [hyl]
       have RN := Lib.hid (rows_new (after := a) TR1.out hhi hnl)
       have hsub : y < li.toNat := by omega
       go_wp2
       obtain ⟨w5, hw5⟩ : ∃ W, wr.alloc (.cells #[.int .i64 dt, .int .i64 did, .int .i64 dp, .string ds, .string dh, .int .i64 dst, .int .i64 dd, .string dn] 37) = W := ⟨_, rfl⟩
       have c5 : SpanAt w5 wr.heap.size (⟨dt, did, dp, ds, dh, dst, dd, dn⟩ : Spn) := by rw [← hw5]; exact SpanAt.new (w := wr) (m := (⟨dt, did, dp, ds, dh, dst, dd, dn⟩ : Spn))
       have k5 : Kept (fun _ => False) wr w5 := by rw [← hw5]; exact (Kept.refl _ _).alloc _
       rw [hw5]
       obtain ⟨tb, htb⟩ : ∃ q, wr.heap.size = q := ⟨_, rfl⟩
       rw [htb] at c5 ⊢
       have TBE := Lib.hid htb
       have K5 := Lib.hid k5
       have y0 := c5 0 _ rfl
       have y1 := c5 1 _ rfl
       have y2 := c5 2 _ rfl
       have y3 := c5 3 _ rfl
       have y4 := c5 4 _ rfl
       have y5 := c5 5 _ rfl
       have y6 := c5 6 _ rfl
       have y7 := c5 7 _ rfl
       have Y5 := Lib.hid c5
       have c0 := k5.cell CB0.out (fun f => f)
       have c1 := k5.cell CB1.out (fun f => f)
       have c2 := k5.cell CB2.out (fun f => f)
       replace cy0 := k5.cell cy0 (fun f => f)
       replace cy1 := k5.cell cy1 (fun f => f)
       clear hw5 c5 k5 x0 x1 x2 x3 x4 x5 x6 x7 htb cb0 cb1 cb2 cbo
       go_quiet (fail)
       go_wp2_with (at_builtin; refine stopH ?_)
       intro _
       have K6 := Lib.hid (kept_dn K5.out nq)
       have OU := Lib.hid (show ((w5.drewN nq).alloc (Obj.cells #[.int .i64 dt, .int .i64 did, .int .i64 dp, .string ds, .string dh, .int .i64 dst, .int .i64 dd, .string dn] 37)).ownsRow wr.heap.size 37 8 (.slice (some ⟨w5.heap.size, 0, none⟩) 1 1) 1 [.int .i64 dt, .int .i64 did, .int .i64 dp, .string ds, .string dh, .int .i64 dst, .int .i64 dd, .string dn] from World.ownsRow_lit (w5.drewN nq) #[.int .i64 dt, .int .i64 did, .int .i64 dp, .string ds, .string dh, .int .i64 dst, .int .i64 dd, .string dn] 1 (by have := K5.out.size; exact this) (by decide) rfl)
       have KA := Lib.hid ((K6.out.alloc (Obj.cells #[.int .i64 dt, .int .i64 did, .int .i64 dp, .string ds, .string dh, .int .i64 dst, .int .i64 dd, .string dn] 37)).alloc (Obj.cells #[.int .i64 dt, .slice (some ⟨w5.heap.size, 0, none⟩) 1 1] 46))
       have YO := Lib.hid ((RY.out.kept KA.out (fun _ _ f => f)).own)
       have YLY := YL.out
       rw [YLY] at YO
       refine wpList_append_own _ rfl _ _ 50 rfl w3.heap.size 46 i46 _ 2 32 Try.underlying50 hi0 hz0 hz1 hz2 rfl (by decide) (.slice (some ⟨g, 0, none⟩) y co) y _ rfl YO.out ⟨w5.heap.size + 1, 0, none⟩ 1 1 [.int .i64 dt, (.slice (some ⟨w5.heap.size, 0, none⟩) 1 1)] rfl rfl (World.news_of_block (heap_second (w5.drewN nq) _ _)) ?qa ?qb ?qc ?qd ?_
       case qa => intro u hu; simp at hu; rcases hu with rfl | rfl <;> rfl
       case qb => unfold maxLen; omega
       case qc => omega
       case qd => have h3 := KA.out.size; have h4 := KK.out.size; omega
       intro v8 w8 own8 hg8 hn8
       obtain ⟨ao8, co8, rfl⟩ := own_slice own8
       have K8 := Lib.hid (show Kept (fun q => (Value.slice (some ⟨g, 0, none⟩) y co).ownBlock = some q) wr w8 from (KA.out.mono (fun _ _ f => f.elim) : Kept (fun q => (Value.slice (some ⟨g, 0, none⟩) y co).ownBlock = some q) wr _).grown hg8 (fun q hq _ => hq))
       have OU8 := Lib.hid (own_kept (own_kept OU.out ((Kept.refl (fun _ => False) _).alloc (Obj.cells #[.int .i64 dt, .slice (some ⟨w5.heap.size, 0, none⟩) 1 1] 46)) (fun _ _ f => f)) (grown_kept hg8) (fun q hq e => by have h1 := own_from OU.out hq; have h2 := own_lt2 RY.out.own e; omega))
       have O8 := Lib.hid own8
       have nob : ¬ (Value.slice (some ⟨g, 0, none⟩) y co).ownBlock = some ob := fun e => by have h1 := own_from RY.out.own e; have h2 := OBL.out; omega
       have ntb : ¬ (Value.slice (some ⟨g, 0, none⟩) y co).ownBlock = some tb := fun e => by have h1 := own_lt2 RY.out.own e; have h2 := TBE.out; omega
       have d0 := K8.out.cell CB0.out nob
       have d1 := K8.out.cell CB1.out nob
       have d2 := K8.out.cell CB2.out nob
       have d3 := (KA.out.mono (fun _ _ f => f.elim) |>.trans (Kept.refl (fun _ => False) _) (fun _ _ f => f) (fun _ _ f => f.elim) : Kept (fun _ => False) wr _)
       clear d3
       have D3 := Lib.hid (show w8.cell? ⟨tb, 0, none⟩ = some (.int .i64 dt) from (grown_kept hg8).cell ((((kept_dn (Kept.refl (fun _ => False) w5) nq).alloc (Obj.cells #[.int .i64 dt, .int .i64 did, .int .i64 dp, .string ds, .string dh, .int .i64 dst, .int .i64 dd, .string dn] 37)).alloc (Obj.cells #[.int .i64 dt, .slice (some ⟨w5.heap.size, 0, none⟩) 1 1] 46)).cell (Y5.out 0 _ rfl) (fun f => f)) ntb)
       have d3 := D3.out
       have l0 := World.block_lt_of_cell? _ _ CB0.out
       have tbo : ¬ tb = ob := fun e => by have := TBE.out; simp only at l0; omega
       have f0 := K8.out.frozen (FZ.out 0) l0 nob
       have f1 := K8.out.frozen (FZ.out 1) l0 nob
       have D0 := Lib.hid d0; have D1 := Lib.hid d1; have D2 := Lib.hid d2
       have F8 := Lib.hid (fun j => K8.out.frozen (FZ.out j) (show ob < wr.heap.size from l0) nob)
       clear own8 hg8 hn8 l0 nob ntb c0 c1 c2 y0 y1 y2 y3 y4 y5 y6 y7
       go_wp2
       have KS := Lib.hid (((Kept.refl (fun q => q = ob) w8).setCell (fun _ => rfl) (.slice ao8 (y + 1) co8) : Kept (fun q => q = ob) w8 (w8.setCell ⟨ob, 0, none⟩ _)).setCell (p := ⟨ob, 1, none⟩) (fun _ => rfl) (.int .i64 dt))
       have s0 := World.cell?_setCell_same w8 ⟨ob, 0, none⟩ (.slice ao8 (y + 1) co8) D0.out
       have s1 : (w8.setCell ⟨ob, 0, none⟩ (.slice ao8 (y + 1) co8)).cell? ⟨ob, 1, none⟩ = some (.int .i64 (nextF a (tracesF a (RR.take i)))) := by rw [World.cell?_setCell_other _ _ _ _ (by simp)]; exact D1.out
       have s2 : (w8.setCell ⟨ob, 0, none⟩ (.slice ao8 (y + 1) co8)).cell? ⟨ob, 2, none⟩ = some (.bool false) := by rw [World.cell?_setCell_other _ _ _ _ (by simp)]; exact D2.out
       have t0 : ((w8.setCell ⟨ob, 0, none⟩ (.slice ao8 (y + 1) co8)).setCell ⟨ob, 1, none⟩ (.int .i64 dt)).cell? ⟨ob, 0, none⟩ = some (.slice ao8 (y + 1) co8) := by rw [World.cell?_setCell_other _ _ _ _ (by simp)]; exact s0
       have t1 := World.cell?_setCell_same (w8.setCell ⟨ob, 0, none⟩ (.slice ao8 (y + 1) co8)) ⟨ob, 1, none⟩ (.int .i64 dt) s1
       have t2 : ((w8.setCell ⟨ob, 0, none⟩ (.slice ao8 (y + 1) co8)).setCell ⟨ob, 1, none⟩ (.int .i64 dt)).cell? ⟨ob, 2, none⟩ = some (.bool false) := by rw [World.cell?_setCell_other _ _ _ _ (by simp)]; exact s2
       go_roundg (m - i - 1)
       case measure => have := JI.out; omega
       case rel =>
        have e1 : nextF a (tracesF a (RR.take (i + 1))) = dt := by rw [TK.out, RN.out.2]; simp [nextF]
        have o8 := O8.out
        have RP := RowsAt.push (t := dt) (u := (.slice (some ⟨w5.heap.size, 0, none⟩) 1 1)) (L := [(⟨dt, did, dp, ds, dh, dst, dd, dn⟩ : Spn)]) RY.out K8.out (by rw [YL.out]; exact o8) (by have h := own_low OU8.out KK.out.size; simpa [cellsS, Spn.cells] using h) (fun q hq => own_from OU.out hq)
        refine ⟨i + 1, _, (A ++ [⟨yt, yv, yL⟩]) ++ [⟨dt, (.slice (some ⟨w5.heap.size, 0, none⟩) 1 1), [(⟨dt, did, dp, ds, dh, dst, dd, dn⟩ : Spn)]⟩], by have := JI.out; omega, by go_num, by rw [List.length_append, YL.out]; simp; omega, ?_, RP.kept KS.out (fun q hq e => by have := OBL.out; omega), t0, by rw [e1]; exact t1, t2, fun j => ?_, ?_⟩
        ·rw [stripR_append, HY.out, TK.out, RN.out.1]; rfl
        ·rw [World.frozen?_setCell, World.frozen?_setCell]; exact F8.out j
        ·exact (KK.out.trans K8.out (fun _ _ h => h) (fun q hq e => by have := own_from RY.out.own e; omega) : Kept (fun q => q = ob) w3 w8).trans KS.out (fun _ _ h => h) (fun _ _ h => h)
  ·have i1 : ¬ (i : Int) < (m : Int) := by omega
   have EI := Lib.hid (show RR.take i = RR from List.take_of_length_le (by rw [MN.out]; omega))
   have PW := Lib.hid (show pageT a li.toNat RR = tracesF a (RR.take i) ∧ pageF a li.toNat RR = rowsF a (RR.take i) ∧ moreF a li.toNat RR = false from by rw [EI.out]; exact page_whole (by have := YT.out; rw [EI.out] at this; omega))
   have rbo : ¬ rb = ob := by have := RBO.out; omega
   have r0 := kk2.cell R0.out rbo
   have r1 := kk2.cell R1.out rbo
   have r2 := kk2.cell R2.out rbo
   have rf0 := kk2.frozen (RF.out 0) (World.block_lt_of_cell? _ _ R0.out) rbo
   have rf1 := kk2.frozen (RF.out 1) (World.block_lt_of_cell? _ _ R1.out) rbo
   have rf2 := kk2.frozen (RF.out 2) (World.block_lt_of_cell? _ _ R2.out) rbo
   have KS := Lib.hid (Kept.refl (fun q => q = ob) wr)
   clear kk2
   go_wp2
   obtain ⟨s0, s1, s2, ks⟩ := box3 (.slice ao y co) (.int .i64 (nextF a (tracesF a (RR.take i)))) (.bool false) (KS.out.cell r0 rbo) (KS.out.cell r1 rbo) (KS.out.cell r2 rbo)
   refine bodyPost_ret (v := _) (by simp [results, Try.results18, go_sem, s0, s1, s2]; try rfl) rfl ?_
   have KF := kept_fresh KW.out KS.out (fun q e => by have := WR.out; have := RBO.out; omega)
   refine ⟨(.slice ao y co), RR, ?_, ?_, PS.out.1, PS.out.2, kept_fresh KF ks (fun q e => by have := WR.out; omega)⟩
   ·rw [PW.out.1, PW.out.2.2]
   ·have RF9 := (RY.out.kept KS.out (fun q hq e => by have := OBL.out; omega)).kept ks (fun q hq e => by have := OBL.out; have := RBO.out; omega)
    have h9 := ReadsP.of_rows RF9
    have e9 := HY.out
    rw [← PW.out.2.1] at e9
    rw [e9] at h9
    exact h9
end Go.Proofs.Ytibakmchgppndaa
/- spoorref21's Find: the traces that a query asks for. -/
namespace Go.Proofs.Ytibakmchgppndaa
open Go.RowKit

def findF (q : Qry) (R : List Spn) : List Int := (dedI (hitT q R)).take q.li.toNat
theorem find_done {q : Qry} {R : List Spn} {T : List Int} (h : T = dedI (hitT q R)) (hl : (T.length : Int) ≤ q.li) : findF q R = T := by
 unfold findF
 rw [← h, List.take_of_length_le (by omega)]
theorem find_full {q : Qry} {R : List Spn} {i : Nat} {T : List Int} (h : T = dedI (hitT q (R.take i))) (hl : (T.length : Int) = q.li) : findF q R = T := by
 obtain ⟨e, he⟩ := hit_pre q R i
 unfold findF
 rw [he, ← h, List.take_append_of_le_length (by omega), List.take_of_length_le (by omega)]
set_option maxHeartbeats 16000000 in
set_option maxRecDepth 100000 in
theorem rfind_all {w : World} {mp : Nat} {L : List Spn} (q : Qry) (now : Int) (hb : qOk q = true) (s1 : q.se.size ≤ 9223372036854775807) (s2 : q.ho.size ≤ 9223372036854775807) (h1 : 0 ≤ now) (h2 : now ≤ 4294967296) (hr : RefAt w mp L) (hm : ∀ m ∈ L, chkB m = true) (hL : L.length ≤ 1000000) : Calls Try.prog 21 #[.pointer (some ⟨mp, 0, none⟩), .agg #[.string q.se, .string q.ho, .int .i64 q.fr, .int .i64 q.tt, .int .i64 q.li], .int .i64 now] w fun e w' => ∃ v', e = .returned (.tuple #[v', .int .i64 0]) ∧ ReadsI w' v' (findF q (rowR now L)) ∧ Kept (fun _ => False) w w' := by
 obtain ⟨i3, hi3, z3', s3, b3⟩ := info_parts inf3t

 obtain ⟨W1, hW1⟩ : ∃ W, w.alloc (.cells #[.string q.se, .string q.ho, .int .i64 q.fr, .int .i64 q.tt, .int .i64 q.li] 40) = W := ⟨_, rfl⟩
 have k1 : Kept (fun _ => False) w W1 := by rw [← hW1]; exact (Kept.refl _ w).alloc _
 obtain ⟨qb, hqb⟩ : ∃ b, w.heap.size = b := ⟨_, rfl⟩
 have Q0 := Lib.hid (show ∀ W, Kept (fun _ => False) W1 W → W.cell? ⟨qb, 0, none⟩ = some (.string q.se) ∧ W.cell? ⟨qb, 1, none⟩ = some (.string q.ho) ∧ W.cell? ⟨qb, 2, none⟩ = some (.int .i64 q.fr) ∧ W.cell? ⟨qb, 3, none⟩ = some (.int .i64 q.tt) ∧ W.cell? ⟨qb, 4, none⟩ = some (.int .i64 q.li) from fun W K => ⟨K.cell (by rw [← hW1, ← hqb]; simp) (fun f => f), K.cell (by rw [← hW1, ← hqb]; simp) (fun f => f), K.cell (by rw [← hW1, ← hqb]; simp) (fun f => f), K.cell (by rw [← hW1, ← hqb]; simp) (fun f => f), K.cell (by rw [← hW1, ← hqb]; simp) (fun f => f)⟩)
 have K1 := Lib.hid k1
 have C0 := Lib.hid (rname_all q.se s1)
 have C1 := Lib.hid (rname_all q.ho s2)
 obtain ⟨c00, c01, c0, c1, c2, c3⟩ := qOk_parts hb
 rw [c00] at C0
 rw [c01] at C1
 have HH := Lib.hid hr; have HM := Lib.hid hm
 have hLI := hL
 have q00 := (Q0.out _ (Kept.refl _ W1)).1
 clear hr hm hb k1 c00 c01
 have RL := Lib.hid (show (rowR now L).length ≤ 1000000 by have a1 := foldR_len (liveF now L); have a2 := live_len now L; unfold rowR; omega)
 obtain ⟨R, hRR⟩ : ∃ R, rowR now L = R := ⟨_, rfl⟩
 rw [hRR] at RL ⊢
 have RE := Lib.hid (show foldR (liveF now L) = R from hRR)
 clear hRR
 go_enter Try.func21, Try.ntmps21
 go_wp2_with fail
 refine (C0.out _).mono ?_
 rintro e w2 ⟨rfl, hw⟩
 have K2 := Lib.hid (show Kept (fun _ => False) w w2 by rw [← hw]; exact K1.out)
 have KQ2 := Lib.hid (show Kept (fun _ => False) W1 w2 by rw [← hw]; exact Kept.refl _ _)
 clear hw
 clear hW1 hqb
 obtain ⟨_, q1, q2, q3, q4⟩ := Q0.out _ KQ2.out
 go_wp2_with fail
 refine (C1.out _).mono ?_
 rintro e w3 ⟨rfl, rfl⟩
 clear q00 q1 q2 q3 q4
 obtain ⟨_, q1, q2, q3, q4⟩ := Q0.out _ KQ2.out
 obtain ⟨⟨vL, hc, ho⟩, _⟩ := HH.out.keptF K2.out
 have SP := Lib.hid (r_all now h1 h2 hc ho HM.out hLI)
 rw [RE.out] at SP
 clear hc ho
 go_wp2_with fail
 refine SP.out.mono ?_
 rintro e w4 ⟨v4, rfl, o4, k4⟩
 have K4 := Lib.hid (keptFF K2.out k4)
 have KQ4 := Lib.hid (keptFF KQ2.out k4)
 obtain ⟨a2, cc2, rfl⟩ := own_slice o4
 have O4 := Lib.hid o4
 obtain ⟨n, hn⟩ : ∃ n, R.length = n := ⟨_, rfl⟩
 rw [hn] at RL
 have LN := Lib.hid hn
 have RLn := RL.out
 clear k4 o4 q1 q2 q3 q4
 rw [hn]
 clear hn
 go_wp2
 go_loopg [8, 10] n (fun gh s t wr => ∃ (i : Nat) (T : List Int), i + gh = n ∧ t = .int .i64 i ∧ T = dedI (hitT q (R.take i)) ∧ (T.length : Int) ≤ q.li ∧ wr.ownsRow w4.heap.size 3 1 s T.length (intsV T) ∧ Kept (fun _ => False) w4 wr)
 case atStart => exact ⟨0, [], by omega, rfl, rfl, by simp; omega, World.ownsRow_nil _ _ _ _, Kept.refl _ _⟩
 case round =>
  obtain ⟨i, T, ji, rfl, hT, htl, ot, kk⟩ := hrel
  have JI := Lib.hid ji; have HT := Lib.hid hT; have KK := Lib.hid kk
  obtain ⟨ao, co, rfl⟩ := own_slice ot
  obtain ⟨m, hm⟩ : ∃ m, T.length = m := ⟨_, rfl⟩
  rw [hm] at ot htl ⊢
  have OT := Lib.hid ot
  have MN := Lib.hid hm
  have HTL := Lib.hid htl
  have i0 : (0 : Int) ≤ (i : Int) := by omega
  have hml : m ≤ 1000000 := by omega
  obtain ⟨q0, q1, q2, q3, q4⟩ := Q0.out _ (keptFF KQ4.out kk)
  clear ji hT ot kk hm htl
  by_cases hin : i < n
  ·have i1 : (i : Int) < (n : Int) := by omega
   by_cases hlt : (m : Int) < q.li
   ·have i2 : (i : Int) ≤ 1000000 := by omega
    obtain ⟨x, hx⟩ : ∃ x, R[i]? = some x := ⟨_, List.getElem?_eq_getElem (by rw [LN.out]; exact hin)⟩
    obtain ⟨g, rfl, hcs⟩ : ∃ g, a2 = some ⟨g, 0, none⟩ ∧ ∀ j u, (cellsS R)[j]? = some u → w4.cell? ⟨g, j, none⟩ = some u := by
     rcases row_form O4.out with ⟨h1, h2⟩ | ⟨g, c, h1, _, _, _, hc2⟩
     ·have := LN.out; omega
     ·cases h1; exact ⟨g, rfl, hc2⟩
    have rx := ReadsS.at (o := 0) (fun j u hu => by rw [Nat.zero_add]; exact KK.out.cell (hcs j u hu) (fun f => f)) hx
    rw [Nat.zero_add] at rx
    obtain ⟨x0, x1, x2, x3, x4, x5, x6, x7⟩ := rx
    have TK := Lib.hid (rtake_snoc hx)
    have XM := Lib.hid (show matchB q x = (decide (x.se.toList = q.se.toList) && (decide (x.ho.toList = q.ho.toList) && (decide (q.fr ≤ x.st) && decide (x.st ≤ q.tt)))) from rfl)
    clear hcs hx
    obtain ⟨dt, did, dp, ds, dh, dst, dd, dn⟩ := x
    simp only at x0 x1 x2 x3 x4 x5 x6 x7 XM
    go_wp2
    obtain ⟨w5, hw5⟩ : ∃ W, wr.alloc (.cells #[.int .i64 dt, .int .i64 did, .int .i64 dp, .string ds, .string dh, .int .i64 dst, .int .i64 dd, .string dn] 37) = W := ⟨_, rfl⟩
    have c5 : SpanAt w5 wr.heap.size ⟨dt, did, dp, ds, dh, dst, dd, dn⟩ := by rw [← hw5]; exact SpanAt.new (w := wr) (m := ⟨dt, did, dp, ds, dh, dst, dd, dn⟩)
    have k5 : Kept (fun _ => False) wr w5 := by rw [← hw5]; exact (Kept.refl _ _).alloc _
    rw [hw5]
    have K5 := Lib.hid (keptFF KK.out k5)
    have KR5 := Lib.hid k5
    obtain ⟨tb, htb⟩ : ∃ q, wr.heap.size = q := ⟨_, rfl⟩
    rw [htb] at c5 ⊢
    have y0 := c5 0 _ rfl
    have y3 := c5 3 _ rfl
    have y4 := c5 4 _ rfl
    have y5 := c5 5 _ rfl
    have C5 := Lib.hid c5
    replace q0 := k5.cell q0 (fun f => f)
    replace q1 := k5.cell q1 (fun f => f)
    replace q2 := k5.cell q2 (fun f => f)
    replace q3 := k5.cell q3 (fun f => f)
    clear hw5 c5 k5 x0 x1 x2 x3 x4 x5 x6 x7 htb q4
    by_cases e0 : ds.toList = q.se.toList
    ·by_cases e1 : dh.toList = q.ho.toList
     ·by_cases e2 : q.fr ≤ dst
      ·by_cases e3 : dst ≤ q.tt
       ·by_cases hm0 : m = 0
        ·have hTn : T = [] := List.eq_nil_of_length_eq_zero (by rw [MN.out]; exact hm0)
         have LA := Lib.hid (show ¬ T.getLast? = some dt by rw [hTn]; simp)
         have z0 : ((m : Int) == 0) = true := by simp; omega
         clear hm0 hTn
         have ST := Lib.hid (show dedI (hitT q (R.take i ++ [⟨dt, did, dp, ds, dh, dst, dd, dn⟩])) = T ++ [dt] from by rw [hit_yes (by rw [XM.out]; simp [e0, e1, e2, e3]), dedI_snoc, ← HT.out]; unfold dStep; rw [if_neg LA.out])
         refine wp_region_held_drew (S := (fun w' => w'.cell? ⟨tb, 0, none⟩ = some (.int .i64 dt) ∧ w'.cell? ⟨tb, 3, none⟩ = some (.string ds) ∧ w'.cell? ⟨tb, 4, none⟩ = some (.string dh) ∧ w'.cell? ⟨tb, 5, none⟩ = some (.int .i64 dst) ∧ w'.cell? ⟨qb, 0, none⟩ = some (.string q.se) ∧ w'.cell? ⟨qb, 1, none⟩ = some (.string q.ho) ∧ w'.cell? ⟨qb, 2, none⟩ = some (.int .i64 q.fr) ∧ w'.cell? ⟨qb, 3, none⟩ = some (.int .i64 q.tt))) (by kernel_rfl) ?_ (fun hHeld => ?_)
         ·exact ⟨y0, y3, y4, y5, q0, q1, q2, q3⟩
         refine tW 0 opAt0 hHeld ?_
         (try simp only [Act.put]); try simp only [List.setIfInBounds_toArray, List.set]
         refine tW 1 opAt1 hHeld ?_
         (try simp only [Act.put]); try simp only [List.setIfInBounds_toArray, List.set]
         refine tW 2 opAt2 hHeld ?_
         (try simp only [Act.put]); try simp only [List.setIfInBounds_toArray, List.set]
         refine tW 3 opAt3 hHeld ?_
         (try simp only [Act.put]); try simp only [List.setIfInBounds_toArray, List.set]
         refine tW 4 opAt4 hHeld ?_
         (try simp only [Act.put]); try simp only [List.setIfInBounds_toArray, List.set]
         refine tW 5 opAt5 hHeld ?_
         (try simp only [Act.put]); try simp only [List.setIfInBounds_toArray, List.set]
         refine tW 6 opAt6 hHeld ?_
         (try simp only [Act.put]); try simp only [List.setIfInBounds_toArray, List.set]
         refine tW 7 opAt7 hHeld ?_
         (try simp only [Act.put]); try simp only [List.setIfInBounds_toArray, List.set]
         refine tW 8 opAt8 hHeld ?_
         (try simp only [Act.put]); try simp only [List.setIfInBounds_toArray, List.set]
         refine tW 9 opAt9 hHeld ?_
         (try simp only [Act.put]); try simp only [List.setIfInBounds_toArray, List.set]
         refine tW 10 opAt10 hHeld ?_
         (try simp only [Act.put]); try simp only [List.setIfInBounds_toArray, List.set]
         refine tW 11 opAt11 hHeld ?_
         (try simp only [Act.put]); try simp only [List.setIfInBounds_toArray, List.set]
         refine tW 12 opAt12 hHeld ?_
         (try simp only [Act.put]); try simp only [List.setIfInBounds_toArray, List.set]
         refine tW 13 opAt13 hHeld ?_
         (try simp only [Act.put]); try simp only [List.setIfInBounds_toArray, List.set]
         refine tW 14 opAt14 hHeld ?_
         (try simp only [Act.put]); try simp only [List.setIfInBounds_toArray, List.set]
         refine tW 15 opAt15 hHeld ?_
         (try simp only [Act.put]); try simp only [List.setIfInBounds_toArray, List.set]
         refine tW 16 opAt16 hHeld ?_
         (try simp only [Act.put]); try simp only [List.setIfInBounds_toArray, List.set]
         refine tW 17 opAt17 hHeld ?_
         (try simp only [Act.put]); try simp only [List.setIfInBounds_toArray, List.set]
         refine tW 18 opAt18 hHeld ?_
         (try simp only [Act.put]); try simp only [List.setIfInBounds_toArray, List.set]
         refine tW 19 opAt19 hHeld ?_
         (try simp only [Act.put]); try simp only [List.setIfInBounds_toArray, List.set]
         refine tW 20 opAt20 hHeld ?_
         (try simp only [Act.put]); try simp only [List.setIfInBounds_toArray, List.set]
         refine tW 21 opAt21 hHeld ?_
         (try simp only [Act.put]); try simp only [List.setIfInBounds_toArray, List.set]
         refine tW 22 opAt22 hHeld ?_
         (try simp only [Act.put]); try simp only [List.setIfInBounds_toArray, List.set]
         refine tW 23 opAt23 hHeld ?_
         (try simp only [Act.put]); try simp only [List.setIfInBounds_toArray, List.set]
         refine tW 24 opAt24 hHeld ?_
         (try simp only [Act.put]); try simp only [List.setIfInBounds_toArray, List.set]
         refine tW 25 opAt25 hHeld ?_
         (try simp only [Act.put]); try simp only [List.setIfInBounds_toArray, List.set]
         refine tW 26 opAt26 hHeld ?_
         (try simp only [Act.put]); try simp only [List.setIfInBounds_toArray, List.set]
         refine tW 27 opAt27 hHeld ?_
         (try simp only [Act.put]); try simp only [List.setIfInBounds_toArray, List.set]
         refine tW 28 opAt28 hHeld ?_
         (try simp only [Act.put]); try simp only [List.setIfInBounds_toArray, List.set]
         refine tW 29 opAt29 hHeld ?_
         (try simp only [Act.put]); try simp only [List.setIfInBounds_toArray, List.set]
         refine tW 30 opAt30 hHeld ?_
         (try simp only [Act.put]); try simp only [List.setIfInBounds_toArray, List.set]
         refine tU 31 opAt31 hHeld ?_
         (try simp only [Act.put]); try simp only [List.setIfInBounds_toArray, List.set]
         refine tU 32 opAt32 hHeld ?_
         (try simp only [Act.put]); try simp only [List.setIfInBounds_toArray, List.set]
         refine tU 33 opAt33 hHeld ?_
         (try simp only [Act.put]); try simp only [List.setIfInBounds_toArray, List.set]
         refine tU 34 opAt34 hHeld ?_
         (try simp only [Act.put]); try simp only [List.setIfInBounds_toArray, List.set]
         refine tU 35 opAt35 hHeld ?_
         (try simp only [Act.put]); try simp only [List.setIfInBounds_toArray, List.set]
         refine tU 36 opAt36 hHeld ?_
         (try simp only [Act.put]); try simp only [List.setIfInBounds_toArray, List.set]
         refine tU 37 opAt37 hHeld ?_
         (try simp only [Act.put]); try simp only [List.setIfInBounds_toArray, List.set]
         refine tU 38 opAt38 hHeld ?_
         (try simp only [Act.put]); try simp only [List.setIfInBounds_toArray, List.set]
         refine tU 39 opAt39 hHeld ?_
         (try simp only [Act.put]); try simp only [List.setIfInBounds_toArray, List.set]
         refine tW 40 opAt40 hHeld ?_
         (try simp only [Act.put]); try simp only [List.setIfInBounds_toArray, List.set]
         refine tW 41 opAt41 hHeld ?_
         (try simp only [Act.put]); try simp only [List.setIfInBounds_toArray, List.set]
         refine wpAnyH_done (by kernel_rfl) ?_ _
         clear hHeld
         obtain ⟨wd, hwd⟩ : ∃ W, w5.drew = W := ⟨_, rfl⟩
         have kd : Kept (fun _ => False) w5 wd := by rw [← hwd]; exact (Kept.refl _ _).drew
         rw [hwd]
         have KD := Lib.hid (keptFF KR5.out kd)
         replace y0 := kd.cell y0 (fun f => f)
         clear hwd kd
         go_wp2_with (at_builtin; refine stopH ?_)
         intro _
         refine wpList_append_own _ rfl _ _ 55 rfl w4.heap.size 3 i3 _ 1 8 Try.underlying55 hi3 z3' s3 b3 rfl (by decide) _ m _ rfl (own_kept OT.out (KD.out.alloc _) (fun _ _ f => f)) ⟨wd.heap.size, 0, none⟩ 1 1 [.int .i64 dt] rfl rfl (World.news_of_block (heap_alloc_new _ _)) ?qa ?qb ?qc ?qd ?_
         case qa => intro u hu; simp at hu; subst hu; rfl
         case qb => unfold maxLen; omega
         case qc => omega
         case qd => have h1 := KK.out.size; have h2 := KD.out.size; simp; omega
         intro v8 w8 own8 hg8 hn8
         have K8 := Lib.hid (((keptFF KK.out KD.out).alloc (Obj.cells #[.int .i64 dt] 3)).grown hg8 (fun q hq hlt => by have h1 := own_from OT.out hq; omega))
         have O8 := Lib.hid own8
         obtain ⟨ao8, cap8, rfl⟩ := own_slice own8
         clear own8 hg8 hn8
         go_wp2
         go_roundg (n - i - 1)
         case measure => have := JI.out; omega
         case rel => exact ⟨i + 1, T ++ [dt], by have := JI.out; omega, by go_num, by rw [TK.out, ST.out], by rw [List.length_append, MN.out]; simp; omega, by rw [List.length_append, MN.out, intsV_snoc]; exact O8.out, K8.out⟩
        ·obtain ⟨u, hu⟩ : ∃ u, m = u + 1 := ⟨m - 1, by omega⟩
         obtain ⟨y, hy⟩ : ∃ y, T[u]? = some y := ⟨_, List.getElem?_eq_getElem (by rw [MN.out]; omega)⟩
         have LA := Lib.hid (last_at (by rw [MN.out, hu]) hy)
         obtain ⟨go, rfl, _⟩ : ∃ g, ao = some ⟨g, 0, none⟩ ∧ True := by
          rcases row_form OT.out with ⟨h1, h2⟩ | ⟨g, c, h1, _⟩
          ·exact absurd h2 hm0
          ·cases h1; exact ⟨g, rfl, trivial⟩
         have qy := KR5.out.cell (own_int OT.out hy) (fun f => f)
         have z0 : ((m : Int) == 0) = false := by simp; omega
         have z1 : IntKind.i64.wrap ((m : Int) - 1) = (u : Int) := by rw [IntWalk.i64_in _ (by omega)]; omega
         have z2 : (0 : Int) ≤ (u : Int) := by omega
         have z3 : (u : Int) < (m : Int) := by omega
         clear hy hu hm0
         by_cases hyx : y = dt
         ·have z4 : (y == dt) = true := by simp [hyx]
          have z5 : (y != dt) = false := by simp [hyx]
          have HYX := Lib.hid hyx
          clear hyx
          have ST := Lib.hid (show dedI (hitT q (R.take i ++ [⟨dt, did, dp, ds, dh, dst, dd, dn⟩])) = dedI (hitT q (R.take i)) from by rw [hit_yes (by rw [XM.out]; simp [e0, e1, e2, e3]), dedI_snoc, ← HT.out]; unfold dStep; rw [if_pos (by rw [LA.out, HYX.out])])
          refine wp_region_held_drew (S := (fun w' => w'.cell? ⟨tb, 0, none⟩ = some (.int .i64 dt) ∧ w'.cell? ⟨tb, 3, none⟩ = some (.string ds) ∧ w'.cell? ⟨tb, 4, none⟩ = some (.string dh) ∧ w'.cell? ⟨tb, 5, none⟩ = some (.int .i64 dst) ∧ w'.cell? ⟨qb, 0, none⟩ = some (.string q.se) ∧ w'.cell? ⟨qb, 1, none⟩ = some (.string q.ho) ∧ w'.cell? ⟨qb, 2, none⟩ = some (.int .i64 q.fr) ∧ w'.cell? ⟨qb, 3, none⟩ = some (.int .i64 q.tt) ∧ w'.cell? ⟨go, u, none⟩ = some (.int .i64 y))) (by kernel_rfl) ?_ (fun hHeld => ?_)
          ·exact ⟨y0, y3, y4, y5, q0, q1, q2, q3, qy⟩
          refine tW 0 opAt0 hHeld ?_
          (try simp only [Act.put]); try simp only [List.setIfInBounds_toArray, List.set]
          refine tW 1 opAt1 hHeld ?_
          (try simp only [Act.put]); try simp only [List.setIfInBounds_toArray, List.set]
          refine tW 2 opAt2 hHeld ?_
          (try simp only [Act.put]); try simp only [List.setIfInBounds_toArray, List.set]
          refine tW 3 opAt3 hHeld ?_
          (try simp only [Act.put]); try simp only [List.setIfInBounds_toArray, List.set]
          refine tW 4 opAt4 hHeld ?_
          (try simp only [Act.put]); try simp only [List.setIfInBounds_toArray, List.set]
          refine tW 5 opAt5 hHeld ?_
          (try simp only [Act.put]); try simp only [List.setIfInBounds_toArray, List.set]
          refine tW 6 opAt6 hHeld ?_
          (try simp only [Act.put]); try simp only [List.setIfInBounds_toArray, List.set]
          refine tW 7 opAt7 hHeld ?_
          (try simp only [Act.put]); try simp only [List.setIfInBounds_toArray, List.set]
          refine tW 8 opAt8 hHeld ?_
          (try simp only [Act.put]); try simp only [List.setIfInBounds_toArray, List.set]
          refine tW 9 opAt9 hHeld ?_
          (try simp only [Act.put]); try simp only [List.setIfInBounds_toArray, List.set]
          refine tW 10 opAt10 hHeld ?_
          (try simp only [Act.put]); try simp only [List.setIfInBounds_toArray, List.set]
          refine tW 11 opAt11 hHeld ?_
          (try simp only [Act.put]); try simp only [List.setIfInBounds_toArray, List.set]
          refine tW 12 opAt12 hHeld ?_
          (try simp only [Act.put]); try simp only [List.setIfInBounds_toArray, List.set]
          refine tW 13 opAt13 hHeld ?_
          (try simp only [Act.put]); try simp only [List.setIfInBounds_toArray, List.set]
          refine tW 14 opAt14 hHeld ?_
          (try simp only [Act.put]); try simp only [List.setIfInBounds_toArray, List.set]
          refine tW 15 opAt15 hHeld ?_
          (try simp only [Act.put]); try simp only [List.setIfInBounds_toArray, List.set]
          refine tW 16 opAt16 hHeld ?_
          (try simp only [Act.put]); try simp only [List.setIfInBounds_toArray, List.set]
          refine tW 17 opAt17 hHeld ?_
          (try simp only [Act.put]); try simp only [List.setIfInBounds_toArray, List.set]
          refine tW 18 opAt18 hHeld ?_
          (try simp only [Act.put]); try simp only [List.setIfInBounds_toArray, List.set]
          refine tW 19 opAt19 hHeld ?_
          (try simp only [Act.put]); try simp only [List.setIfInBounds_toArray, List.set]
          refine tW 20 opAt20 hHeld ?_
          (try simp only [Act.put]); try simp only [List.setIfInBounds_toArray, List.set]
          refine tW 21 opAt21 hHeld ?_
          (try simp only [Act.put]); try simp only [List.setIfInBounds_toArray, List.set]
          refine tW 22 opAt22 hHeld ?_
          (try simp only [Act.put]); try simp only [List.setIfInBounds_toArray, List.set]
          refine tW 23 opAt23 hHeld ?_
          (try simp only [Act.put]); try simp only [List.setIfInBounds_toArray, List.set]
          refine tW 24 opAt24 hHeld ?_
          (try simp only [Act.put]); try simp only [List.setIfInBounds_toArray, List.set]
          refine tW 25 opAt25 hHeld ?_
          (try simp only [Act.put]); try simp only [List.setIfInBounds_toArray, List.set]
          refine tW 26 opAt26 hHeld ?_
          (try simp only [Act.put]); try simp only [List.setIfInBounds_toArray, List.set]
          refine tW 27 opAt27 hHeld ?_
          (try simp only [Act.put]); try simp only [List.setIfInBounds_toArray, List.set]
          refine tW 28 opAt28 hHeld ?_
          (try simp only [Act.put]); try simp only [List.setIfInBounds_toArray, List.set]
          refine tW 29 opAt29 hHeld ?_
          (try simp only [Act.put]); try simp only [List.setIfInBounds_toArray, List.set]
          refine tW 30 opAt30 hHeld ?_
          (try simp only [Act.put]); try simp only [List.setIfInBounds_toArray, List.set]
          refine tW 31 opAt31 hHeld ?_
          (try simp only [Act.put]); try simp only [List.setIfInBounds_toArray, List.set]
          refine tW 32 opAt32 hHeld ?_
          (try simp only [Act.put]); try simp only [List.setIfInBounds_toArray, List.set]
          refine tW 33 opAt33 hHeld ?_
          (try simp only [Act.put]); try simp only [List.setIfInBounds_toArray, List.set]
          refine tW 34 opAt34 hHeld ?_
          (try simp only [Act.put]); try simp only [List.setIfInBounds_toArray, List.set]
          refine tW 35 opAt35 hHeld ?_
          (try simp only [Act.put]); try simp only [List.setIfInBounds_toArray, List.set]
          refine tW 36 opAt36 hHeld ?_
          (try simp only [Act.put]); try simp only [List.setIfInBounds_toArray, List.set]
          refine tW 37 opAt37 hHeld ?_
          (try simp only [Act.put]); try simp only [List.setIfInBounds_toArray, List.set]
          refine tW 38 opAt38 hHeld ?_
          (try simp only [Act.put]); try simp only [List.setIfInBounds_toArray, List.set]
          refine tW 39 opAt39 hHeld ?_
          (try simp only [Act.put]); try simp only [List.setIfInBounds_toArray, List.set]
          refine tW 40 opAt40 hHeld ?_
          (try simp only [Act.put]); try simp only [List.setIfInBounds_toArray, List.set]
          refine tW 41 opAt41 hHeld ?_
          (try simp only [Act.put]); try simp only [List.setIfInBounds_toArray, List.set]
          refine wpAnyH_done (by kernel_rfl) ?_ _
          have KD := Lib.hid (KR5.out.drew)
          clear hHeld
          go_wp2
          go_roundg (n - i - 1)
          case measure => have := JI.out; omega
          case rel => exact ⟨i + 1, T, by have := JI.out; omega, by go_num, by rw [TK.out, ST.out]; exact HT.out, by rw [MN.out]; exact HTL.out, by rw [MN.out]; exact own_kept OT.out KD.out (fun _ _ f => f), keptFF KK.out KD.out⟩
         ·have z4 : (y == dt) = false := by simp [hyx]
          have z5 : (y != dt) = true := by simp [hyx]
          have HYX := Lib.hid hyx
          clear hyx
          have ST := Lib.hid (show dedI (hitT q (R.take i ++ [⟨dt, did, dp, ds, dh, dst, dd, dn⟩])) = T ++ [dt] from by rw [hit_yes (by rw [XM.out]; simp [e0, e1, e2, e3]), dedI_snoc, ← HT.out]; unfold dStep; rw [if_neg (by rw [LA.out]; intro e; exact HYX.out (Option.some.inj e))])
          refine wp_region_held_drew (S := (fun w' => w'.cell? ⟨tb, 0, none⟩ = some (.int .i64 dt) ∧ w'.cell? ⟨tb, 3, none⟩ = some (.string ds) ∧ w'.cell? ⟨tb, 4, none⟩ = some (.string dh) ∧ w'.cell? ⟨tb, 5, none⟩ = some (.int .i64 dst) ∧ w'.cell? ⟨qb, 0, none⟩ = some (.string q.se) ∧ w'.cell? ⟨qb, 1, none⟩ = some (.string q.ho) ∧ w'.cell? ⟨qb, 2, none⟩ = some (.int .i64 q.fr) ∧ w'.cell? ⟨qb, 3, none⟩ = some (.int .i64 q.tt) ∧ w'.cell? ⟨go, u, none⟩ = some (.int .i64 y))) (by kernel_rfl) ?_ (fun hHeld => ?_)
          ·exact ⟨y0, y3, y4, y5, q0, q1, q2, q3, qy⟩
          refine tW 0 opAt0 hHeld ?_
          (try simp only [Act.put]); try simp only [List.setIfInBounds_toArray, List.set]
          refine tW 1 opAt1 hHeld ?_
          (try simp only [Act.put]); try simp only [List.setIfInBounds_toArray, List.set]
          refine tW 2 opAt2 hHeld ?_
          (try simp only [Act.put]); try simp only [List.setIfInBounds_toArray, List.set]
          refine tW 3 opAt3 hHeld ?_
          (try simp only [Act.put]); try simp only [List.setIfInBounds_toArray, List.set]
          refine tW 4 opAt4 hHeld ?_
          (try simp only [Act.put]); try simp only [List.setIfInBounds_toArray, List.set]
          refine tW 5 opAt5 hHeld ?_
          (try simp only [Act.put]); try simp only [List.setIfInBounds_toArray, List.set]
          refine tW 6 opAt6 hHeld ?_
          (try simp only [Act.put]); try simp only [List.setIfInBounds_toArray, List.set]
          refine tW 7 opAt7 hHeld ?_
          (try simp only [Act.put]); try simp only [List.setIfInBounds_toArray, List.set]
          refine tW 8 opAt8 hHeld ?_
          (try simp only [Act.put]); try simp only [List.setIfInBounds_toArray, List.set]
          refine tW 9 opAt9 hHeld ?_
          (try simp only [Act.put]); try simp only [List.setIfInBounds_toArray, List.set]
          refine tW 10 opAt10 hHeld ?_
          (try simp only [Act.put]); try simp only [List.setIfInBounds_toArray, List.set]
          refine tW 11 opAt11 hHeld ?_
          (try simp only [Act.put]); try simp only [List.setIfInBounds_toArray, List.set]
          refine tW 12 opAt12 hHeld ?_
          (try simp only [Act.put]); try simp only [List.setIfInBounds_toArray, List.set]
          refine tW 13 opAt13 hHeld ?_
          (try simp only [Act.put]); try simp only [List.setIfInBounds_toArray, List.set]
          refine tW 14 opAt14 hHeld ?_
          (try simp only [Act.put]); try simp only [List.setIfInBounds_toArray, List.set]
          refine tW 15 opAt15 hHeld ?_
          (try simp only [Act.put]); try simp only [List.setIfInBounds_toArray, List.set]
          refine tW 16 opAt16 hHeld ?_
          (try simp only [Act.put]); try simp only [List.setIfInBounds_toArray, List.set]
          refine tW 17 opAt17 hHeld ?_
          (try simp only [Act.put]); try simp only [List.setIfInBounds_toArray, List.set]
          refine tW 18 opAt18 hHeld ?_
          (try simp only [Act.put]); try simp only [List.setIfInBounds_toArray, List.set]
          refine tW 19 opAt19 hHeld ?_
          (try simp only [Act.put]); try simp only [List.setIfInBounds_toArray, List.set]
          refine tW 20 opAt20 hHeld ?_
          (try simp only [Act.put]); try simp only [List.setIfInBounds_toArray, List.set]
          refine tW 21 opAt21 hHeld ?_
          (try simp only [Act.put]); try simp only [List.setIfInBounds_toArray, List.set]
          refine tW 22 opAt22 hHeld ?_
          (try simp only [Act.put]); try simp only [List.setIfInBounds_toArray, List.set]
          refine tW 23 opAt23 hHeld ?_
          (try simp only [Act.put]); try simp only [List.setIfInBounds_toArray, List.set]
          refine tW 24 opAt24 hHeld ?_
          (try simp only [Act.put]); try simp only [List.setIfInBounds_toArray, List.set]
          refine tW 25 opAt25 hHeld ?_
          (try simp only [Act.put]); try simp only [List.setIfInBounds_toArray, List.set]
          refine tW 26 opAt26 hHeld ?_
          (try simp only [Act.put]); try simp only [List.setIfInBounds_toArray, List.set]
          refine tW 27 opAt27 hHeld ?_
          (try simp only [Act.put]); try simp only [List.setIfInBounds_toArray, List.set]
          refine tW 28 opAt28 hHeld ?_
          (try simp only [Act.put]); try simp only [List.setIfInBounds_toArray, List.set]
          refine tW 29 opAt29 hHeld ?_
          (try simp only [Act.put]); try simp only [List.setIfInBounds_toArray, List.set]
          refine tW 30 opAt30 hHeld ?_
          (try simp only [Act.put]); try simp only [List.setIfInBounds_toArray, List.set]
          refine tW 31 opAt31 hHeld ?_
          (try simp only [Act.put]); try simp only [List.setIfInBounds_toArray, List.set]
          refine tW 32 opAt32 hHeld ?_
          (try simp only [Act.put]); try simp only [List.setIfInBounds_toArray, List.set]
          refine tW 33 opAt33 hHeld ?_
          (try simp only [Act.put]); try simp only [List.setIfInBounds_toArray, List.set]
          refine tW 34 opAt34 hHeld ?_
          (try simp only [Act.put]); try simp only [List.setIfInBounds_toArray, List.set]
          refine tW 35 opAt35 hHeld ?_
          (try simp only [Act.put]); try simp only [List.setIfInBounds_toArray, List.set]
          refine tW 36 opAt36 hHeld ?_
          (try simp only [Act.put]); try simp only [List.setIfInBounds_toArray, List.set]
          refine tW 37 opAt37 hHeld ?_
          (try simp only [Act.put]); try simp only [List.setIfInBounds_toArray, List.set]
          refine tW 38 opAt38 hHeld ?_
          (try simp only [Act.put]); try simp only [List.setIfInBounds_toArray, List.set]
          refine tW 39 opAt39 hHeld ?_
          (try simp only [Act.put]); try simp only [List.setIfInBounds_toArray, List.set]
          refine tW 40 opAt40 hHeld ?_
          (try simp only [Act.put]); try simp only [List.setIfInBounds_toArray, List.set]
          refine tW 41 opAt41 hHeld ?_
          (try simp only [Act.put]); try simp only [List.setIfInBounds_toArray, List.set]
          refine wpAnyH_done (by kernel_rfl) ?_ _
          clear hHeld
          obtain ⟨wd, hwd⟩ : ∃ W, w5.drew = W := ⟨_, rfl⟩
          have kd : Kept (fun _ => False) w5 wd := by rw [← hwd]; exact (Kept.refl _ _).drew
          rw [hwd]
          have KD := Lib.hid (keptFF KR5.out kd)
          replace y0 := kd.cell y0 (fun f => f)
          clear hwd kd
          go_wp2_with (at_builtin; refine stopH ?_)
          intro _
          refine wpList_append_own _ rfl _ _ 55 rfl w4.heap.size 3 i3 _ 1 8 Try.underlying55 hi3 z3' s3 b3 rfl (by decide) _ m _ rfl (own_kept OT.out (KD.out.alloc _) (fun _ _ f => f)) ⟨wd.heap.size, 0, none⟩ 1 1 [.int .i64 dt] rfl rfl (World.news_of_block (heap_alloc_new _ _)) ?qa ?qb ?qc ?qd ?_
          case qa => intro u hu; simp at hu; subst hu; rfl
          case qb => unfold maxLen; omega
          case qc => omega
          case qd => have h1 := KK.out.size; have h2 := KD.out.size; simp; omega
          intro v8 w8 own8 hg8 hn8
          have K8 := Lib.hid (((keptFF KK.out KD.out).alloc (Obj.cells #[.int .i64 dt] 3)).grown hg8 (fun q hq hlt => by have h1 := own_from OT.out hq; omega))
          have O8 := Lib.hid own8
          obtain ⟨ao8, cap8, rfl⟩ := own_slice own8
          clear own8 hg8 hn8
          go_wp2
          go_roundg (n - i - 1)
          case measure => have := JI.out; omega
          case rel => exact ⟨i + 1, T ++ [dt], by have := JI.out; omega, by go_num, by rw [TK.out, ST.out], by rw [List.length_append, MN.out]; simp; omega, by rw [List.length_append, MN.out, intsV_snoc]; exact O8.out, K8.out⟩
       ·have e4 : q.tt < dst := by omega
        have ST := Lib.hid (show dedI (hitT q (R.take i ++ [⟨dt, did, dp, ds, dh, dst, dd, dn⟩])) = dedI (hitT q (R.take i)) from by rw [hit_no (by rw [XM.out]; simp [e3])])
        refine wp_region_held_drew (S := (fun w' => w'.cell? ⟨tb, 0, none⟩ = some (.int .i64 dt) ∧ w'.cell? ⟨tb, 3, none⟩ = some (.string ds) ∧ w'.cell? ⟨tb, 4, none⟩ = some (.string dh) ∧ w'.cell? ⟨tb, 5, none⟩ = some (.int .i64 dst) ∧ w'.cell? ⟨qb, 0, none⟩ = some (.string q.se) ∧ w'.cell? ⟨qb, 1, none⟩ = some (.string q.ho) ∧ w'.cell? ⟨qb, 2, none⟩ = some (.int .i64 q.fr) ∧ w'.cell? ⟨qb, 3, none⟩ = some (.int .i64 q.tt))) (by kernel_rfl) ?_ (fun hHeld => ?_)
        ·exact ⟨y0, y3, y4, y5, q0, q1, q2, q3⟩
        refine tW 0 opAt0 hHeld ?_
        (try simp only [Act.put]); try simp only [List.setIfInBounds_toArray, List.set]
        refine tW 1 opAt1 hHeld ?_
        (try simp only [Act.put]); try simp only [List.setIfInBounds_toArray, List.set]
        refine tW 2 opAt2 hHeld ?_
        (try simp only [Act.put]); try simp only [List.setIfInBounds_toArray, List.set]
        refine tW 3 opAt3 hHeld ?_
        (try simp only [Act.put]); try simp only [List.setIfInBounds_toArray, List.set]
        refine tW 4 opAt4 hHeld ?_
        (try simp only [Act.put]); try simp only [List.setIfInBounds_toArray, List.set]
        refine tW 5 opAt5 hHeld ?_
        (try simp only [Act.put]); try simp only [List.setIfInBounds_toArray, List.set]
        refine tW 6 opAt6 hHeld ?_
        (try simp only [Act.put]); try simp only [List.setIfInBounds_toArray, List.set]
        refine tW 7 opAt7 hHeld ?_
        (try simp only [Act.put]); try simp only [List.setIfInBounds_toArray, List.set]
        refine tW 8 opAt8 hHeld ?_
        (try simp only [Act.put]); try simp only [List.setIfInBounds_toArray, List.set]
        refine tW 9 opAt9 hHeld ?_
        (try simp only [Act.put]); try simp only [List.setIfInBounds_toArray, List.set]
        refine tW 10 opAt10 hHeld ?_
        (try simp only [Act.put]); try simp only [List.setIfInBounds_toArray, List.set]
        refine tW 11 opAt11 hHeld ?_
        (try simp only [Act.put]); try simp only [List.setIfInBounds_toArray, List.set]
        refine tW 12 opAt12 hHeld ?_
        (try simp only [Act.put]); try simp only [List.setIfInBounds_toArray, List.set]
        refine tW 13 opAt13 hHeld ?_
        (try simp only [Act.put]); try simp only [List.setIfInBounds_toArray, List.set]
        refine tW 14 opAt14 hHeld ?_
        (try simp only [Act.put]); try simp only [List.setIfInBounds_toArray, List.set]
        refine tW 15 opAt15 hHeld ?_
        (try simp only [Act.put]); try simp only [List.setIfInBounds_toArray, List.set]
        refine tW 16 opAt16 hHeld ?_
        (try simp only [Act.put]); try simp only [List.setIfInBounds_toArray, List.set]
        refine tW 17 opAt17 hHeld ?_
        (try simp only [Act.put]); try simp only [List.setIfInBounds_toArray, List.set]
        refine tW 18 opAt18 hHeld ?_
        (try simp only [Act.put]); try simp only [List.setIfInBounds_toArray, List.set]
        refine tW 19 opAt19 hHeld ?_
        (try simp only [Act.put]); try simp only [List.setIfInBounds_toArray, List.set]
        refine tW 20 opAt20 hHeld ?_
        (try simp only [Act.put]); try simp only [List.setIfInBounds_toArray, List.set]
        refine tW 21 opAt21 hHeld ?_
        (try simp only [Act.put]); try simp only [List.setIfInBounds_toArray, List.set]
        refine tW 22 opAt22 hHeld ?_
        (try simp only [Act.put]); try simp only [List.setIfInBounds_toArray, List.set]
        refine tW 23 opAt23 hHeld ?_
        (try simp only [Act.put]); try simp only [List.setIfInBounds_toArray, List.set]
        refine tW 24 opAt24 hHeld ?_
        (try simp only [Act.put]); try simp only [List.setIfInBounds_toArray, List.set]
        refine tW 25 opAt25 hHeld ?_
        (try simp only [Act.put]); try simp only [List.setIfInBounds_toArray, List.set]
        refine tW 26 opAt26 hHeld ?_
        (try simp only [Act.put]); try simp only [List.setIfInBounds_toArray, List.set]
        refine tU 27 opAt27 hHeld ?_
        (try simp only [Act.put]); try simp only [List.setIfInBounds_toArray, List.set]
        refine tU 28 opAt28 hHeld ?_
        (try simp only [Act.put]); try simp only [List.setIfInBounds_toArray, List.set]
        refine tU 29 opAt29 hHeld ?_
        (try simp only [Act.put]); try simp only [List.setIfInBounds_toArray, List.set]
        refine tU 30 opAt30 hHeld ?_
        (try simp only [Act.put]); try simp only [List.setIfInBounds_toArray, List.set]
        refine tU 31 opAt31 hHeld ?_
        (try simp only [Act.put]); try simp only [List.setIfInBounds_toArray, List.set]
        refine tU 32 opAt32 hHeld ?_
        (try simp only [Act.put]); try simp only [List.setIfInBounds_toArray, List.set]
        refine tU 33 opAt33 hHeld ?_
        (try simp only [Act.put]); try simp only [List.setIfInBounds_toArray, List.set]
        refine tU 34 opAt34 hHeld ?_
        (try simp only [Act.put]); try simp only [List.setIfInBounds_toArray, List.set]
        refine tU 35 opAt35 hHeld ?_
        (try simp only [Act.put]); try simp only [List.setIfInBounds_toArray, List.set]
        refine tU 36 opAt36 hHeld ?_
        (try simp only [Act.put]); try simp only [List.setIfInBounds_toArray, List.set]
        refine tU 37 opAt37 hHeld ?_
        (try simp only [Act.put]); try simp only [List.setIfInBounds_toArray, List.set]
        refine tU 38 opAt38 hHeld ?_
        (try simp only [Act.put]); try simp only [List.setIfInBounds_toArray, List.set]
        refine tU 39 opAt39 hHeld ?_
        (try simp only [Act.put]); try simp only [List.setIfInBounds_toArray, List.set]
        refine tU 40 opAt40 hHeld ?_
        (try simp only [Act.put]); try simp only [List.setIfInBounds_toArray, List.set]
        refine tW 41 opAt41 hHeld ?_
        (try simp only [Act.put]); try simp only [List.setIfInBounds_toArray, List.set]
        refine wpAnyH_done (by kernel_rfl) ?_ _
        have KD := Lib.hid (KR5.out.drew)
        clear hHeld
        go_wp2
        go_roundg (n - i - 1)
        case measure => have := JI.out; omega
        case rel => exact ⟨i + 1, T, by have := JI.out; omega, by go_num, by rw [TK.out, ST.out]; exact HT.out, by rw [MN.out]; exact HTL.out, by rw [MN.out]; exact own_kept OT.out KD.out (fun _ _ f => f), keptFF KK.out KD.out⟩
      ·have e4 : dst < q.fr := by omega
       have ST := Lib.hid (show dedI (hitT q (R.take i ++ [⟨dt, did, dp, ds, dh, dst, dd, dn⟩])) = dedI (hitT q (R.take i)) from by rw [hit_no (by rw [XM.out]; simp [e2])])
       refine wp_region_held_drew (S := (fun w' => w'.cell? ⟨tb, 0, none⟩ = some (.int .i64 dt) ∧ w'.cell? ⟨tb, 3, none⟩ = some (.string ds) ∧ w'.cell? ⟨tb, 4, none⟩ = some (.string dh) ∧ w'.cell? ⟨tb, 5, none⟩ = some (.int .i64 dst) ∧ w'.cell? ⟨qb, 0, none⟩ = some (.string q.se) ∧ w'.cell? ⟨qb, 1, none⟩ = some (.string q.ho) ∧ w'.cell? ⟨qb, 2, none⟩ = some (.int .i64 q.fr) ∧ w'.cell? ⟨qb, 3, none⟩ = some (.int .i64 q.tt))) (by kernel_rfl) ?_ (fun hHeld => ?_)
       ·exact ⟨y0, y3, y4, y5, q0, q1, q2, q3⟩
       refine tW 0 opAt0 hHeld ?_
       (try simp only [Act.put]); try simp only [List.setIfInBounds_toArray, List.set]
       refine tW 1 opAt1 hHeld ?_
       (try simp only [Act.put]); try simp only [List.setIfInBounds_toArray, List.set]
       refine tW 2 opAt2 hHeld ?_
       (try simp only [Act.put]); try simp only [List.setIfInBounds_toArray, List.set]
       refine tW 3 opAt3 hHeld ?_
       (try simp only [Act.put]); try simp only [List.setIfInBounds_toArray, List.set]
       refine tW 4 opAt4 hHeld ?_
       (try simp only [Act.put]); try simp only [List.setIfInBounds_toArray, List.set]
       refine tW 5 opAt5 hHeld ?_
       (try simp only [Act.put]); try simp only [List.setIfInBounds_toArray, List.set]
       refine tW 6 opAt6 hHeld ?_
       (try simp only [Act.put]); try simp only [List.setIfInBounds_toArray, List.set]
       refine tW 7 opAt7 hHeld ?_
       (try simp only [Act.put]); try simp only [List.setIfInBounds_toArray, List.set]
       refine tW 8 opAt8 hHeld ?_
       (try simp only [Act.put]); try simp only [List.setIfInBounds_toArray, List.set]
       refine tW 9 opAt9 hHeld ?_
       (try simp only [Act.put]); try simp only [List.setIfInBounds_toArray, List.set]
       refine tW 10 opAt10 hHeld ?_
       (try simp only [Act.put]); try simp only [List.setIfInBounds_toArray, List.set]
       refine tW 11 opAt11 hHeld ?_
       (try simp only [Act.put]); try simp only [List.setIfInBounds_toArray, List.set]
       refine tW 12 opAt12 hHeld ?_
       (try simp only [Act.put]); try simp only [List.setIfInBounds_toArray, List.set]
       refine tW 13 opAt13 hHeld ?_
       (try simp only [Act.put]); try simp only [List.setIfInBounds_toArray, List.set]
       refine tW 14 opAt14 hHeld ?_
       (try simp only [Act.put]); try simp only [List.setIfInBounds_toArray, List.set]
       refine tW 15 opAt15 hHeld ?_
       (try simp only [Act.put]); try simp only [List.setIfInBounds_toArray, List.set]
       refine tW 16 opAt16 hHeld ?_
       (try simp only [Act.put]); try simp only [List.setIfInBounds_toArray, List.set]
       refine tW 17 opAt17 hHeld ?_
       (try simp only [Act.put]); try simp only [List.setIfInBounds_toArray, List.set]
       refine tW 18 opAt18 hHeld ?_
       (try simp only [Act.put]); try simp only [List.setIfInBounds_toArray, List.set]
       refine tW 19 opAt19 hHeld ?_
       (try simp only [Act.put]); try simp only [List.setIfInBounds_toArray, List.set]
       refine tU 20 opAt20 hHeld ?_
       (try simp only [Act.put]); try simp only [List.setIfInBounds_toArray, List.set]
       refine tU 21 opAt21 hHeld ?_
       (try simp only [Act.put]); try simp only [List.setIfInBounds_toArray, List.set]
       refine tU 22 opAt22 hHeld ?_
       (try simp only [Act.put]); try simp only [List.setIfInBounds_toArray, List.set]
       refine tU 23 opAt23 hHeld ?_
       (try simp only [Act.put]); try simp only [List.setIfInBounds_toArray, List.set]
       refine tU 24 opAt24 hHeld ?_
       (try simp only [Act.put]); try simp only [List.setIfInBounds_toArray, List.set]
       refine tW 25 opAt25 hHeld ?_
       (try simp only [Act.put]); try simp only [List.setIfInBounds_toArray, List.set]
       refine tW 26 opAt26 hHeld ?_
       (try simp only [Act.put]); try simp only [List.setIfInBounds_toArray, List.set]
       refine tU 27 opAt27 hHeld ?_
       (try simp only [Act.put]); try simp only [List.setIfInBounds_toArray, List.set]
       refine tU 28 opAt28 hHeld ?_
       (try simp only [Act.put]); try simp only [List.setIfInBounds_toArray, List.set]
       refine tU 29 opAt29 hHeld ?_
       (try simp only [Act.put]); try simp only [List.setIfInBounds_toArray, List.set]
       refine tU 30 opAt30 hHeld ?_
       (try simp only [Act.put]); try simp only [List.setIfInBounds_toArray, List.set]
       refine tU 31 opAt31 hHeld ?_
       (try simp only [Act.put]); try simp only [List.setIfInBounds_toArray, List.set]
       refine tU 32 opAt32 hHeld ?_
       (try simp only [Act.put]); try simp only [List.setIfInBounds_toArray, List.set]
       refine tU 33 opAt33 hHeld ?_
       (try simp only [Act.put]); try simp only [List.setIfInBounds_toArray, List.set]
       refine tU 34 opAt34 hHeld ?_
       (try simp only [Act.put]); try simp only [List.setIfInBounds_toArray, List.set]
       refine tU 35 opAt35 hHeld ?_
       (try simp only [Act.put]); try simp only [List.setIfInBounds_toArray, List.set]
       refine tU 36 opAt36 hHeld ?_
       (try simp only [Act.put]); try simp only [List.setIfInBounds_toArray, List.set]
       refine tU 37 opAt37 hHeld ?_
       (try simp only [Act.put]); try simp only [List.setIfInBounds_toArray, List.set]
       refine tU 38 opAt38 hHeld ?_
       (try simp only [Act.put]); try simp only [List.setIfInBounds_toArray, List.set]
       refine tU 39 opAt39 hHeld ?_
       (try simp only [Act.put]); try simp only [List.setIfInBounds_toArray, List.set]
       refine tU 40 opAt40 hHeld ?_
       (try simp only [Act.put]); try simp only [List.setIfInBounds_toArray, List.set]
       refine tW 41 opAt41 hHeld ?_
       (try simp only [Act.put]); try simp only [List.setIfInBounds_toArray, List.set]
       refine wpAnyH_done (by kernel_rfl) ?_ _
       have KD := Lib.hid (KR5.out.drew)
       clear hHeld
       go_wp2
       go_roundg (n - i - 1)
       case measure => have := JI.out; omega
       case rel => exact ⟨i + 1, T, by have := JI.out; omega, by go_num, by rw [TK.out, ST.out]; exact HT.out, by rw [MN.out]; exact HTL.out, by rw [MN.out]; exact own_kept OT.out KD.out (fun _ _ f => f), keptFF KK.out KD.out⟩
     ·have b1 : (dh.toList == q.ho.toList) = false := by simp [e1]
      have ST := Lib.hid (show dedI (hitT q (R.take i ++ [⟨dt, did, dp, ds, dh, dst, dd, dn⟩])) = dedI (hitT q (R.take i)) from by rw [hit_no (by rw [XM.out]; simp [e1])])
      refine wp_region_held_drew (S := (fun w' => w'.cell? ⟨tb, 0, none⟩ = some (.int .i64 dt) ∧ w'.cell? ⟨tb, 3, none⟩ = some (.string ds) ∧ w'.cell? ⟨tb, 4, none⟩ = some (.string dh) ∧ w'.cell? ⟨tb, 5, none⟩ = some (.int .i64 dst) ∧ w'.cell? ⟨qb, 0, none⟩ = some (.string q.se) ∧ w'.cell? ⟨qb, 1, none⟩ = some (.string q.ho) ∧ w'.cell? ⟨qb, 2, none⟩ = some (.int .i64 q.fr) ∧ w'.cell? ⟨qb, 3, none⟩ = some (.int .i64 q.tt))) (by kernel_rfl) ?_ (fun hHeld => ?_)
      ·exact ⟨y0, y3, y4, y5, q0, q1, q2, q3⟩
      refine tW 0 opAt0 hHeld ?_
      (try simp only [Act.put]); try simp only [List.setIfInBounds_toArray, List.set]
      refine tW 1 opAt1 hHeld ?_
      (try simp only [Act.put]); try simp only [List.setIfInBounds_toArray, List.set]
      refine tW 2 opAt2 hHeld ?_
      (try simp only [Act.put]); try simp only [List.setIfInBounds_toArray, List.set]
      refine tW 3 opAt3 hHeld ?_
      (try simp only [Act.put]); try simp only [List.setIfInBounds_toArray, List.set]
      refine tW 4 opAt4 hHeld ?_
      (try simp only [Act.put]); try simp only [List.setIfInBounds_toArray, List.set]
      refine tW 5 opAt5 hHeld ?_
      (try simp only [Act.put]); try simp only [List.setIfInBounds_toArray, List.set]
      refine tW 6 opAt6 hHeld ?_
      (try simp only [Act.put]); try simp only [List.setIfInBounds_toArray, List.set]
      refine tW 7 opAt7 hHeld ?_
      (try simp only [Act.put]); try simp only [List.setIfInBounds_toArray, List.set]
      refine tW 8 opAt8 hHeld ?_
      (try simp only [Act.put]); try simp only [List.setIfInBounds_toArray, List.set]
      refine tW 9 opAt9 hHeld ?_
      (try simp only [Act.put]); try simp only [List.setIfInBounds_toArray, List.set]
      refine tW 10 opAt10 hHeld ?_
      (try simp only [Act.put]); try simp only [List.setIfInBounds_toArray, List.set]
      refine tW 11 opAt11 hHeld ?_
      (try simp only [Act.put]); try simp only [List.setIfInBounds_toArray, List.set]
      refine tW 12 opAt12 hHeld ?_
      (try simp only [Act.put]); try simp only [List.setIfInBounds_toArray, List.set]
      refine tU 13 opAt13 hHeld ?_
      (try simp only [Act.put]); try simp only [List.setIfInBounds_toArray, List.set]
      refine tU 14 opAt14 hHeld ?_
      (try simp only [Act.put]); try simp only [List.setIfInBounds_toArray, List.set]
      refine tU 15 opAt15 hHeld ?_
      (try simp only [Act.put]); try simp only [List.setIfInBounds_toArray, List.set]
      refine tU 16 opAt16 hHeld ?_
      (try simp only [Act.put]); try simp only [List.setIfInBounds_toArray, List.set]
      refine tU 17 opAt17 hHeld ?_
      (try simp only [Act.put]); try simp only [List.setIfInBounds_toArray, List.set]
      refine tW 18 opAt18 hHeld ?_
      (try simp only [Act.put]); try simp only [List.setIfInBounds_toArray, List.set]
      refine tW 19 opAt19 hHeld ?_
      (try simp only [Act.put]); try simp only [List.setIfInBounds_toArray, List.set]
      refine tU 20 opAt20 hHeld ?_
      (try simp only [Act.put]); try simp only [List.setIfInBounds_toArray, List.set]
      refine tU 21 opAt21 hHeld ?_
      (try simp only [Act.put]); try simp only [List.setIfInBounds_toArray, List.set]
      refine tU 22 opAt22 hHeld ?_
      (try simp only [Act.put]); try simp only [List.setIfInBounds_toArray, List.set]
      refine tU 23 opAt23 hHeld ?_
      (try simp only [Act.put]); try simp only [List.setIfInBounds_toArray, List.set]
      refine tU 24 opAt24 hHeld ?_
      (try simp only [Act.put]); try simp only [List.setIfInBounds_toArray, List.set]
      refine tW 25 opAt25 hHeld ?_
      (try simp only [Act.put]); try simp only [List.setIfInBounds_toArray, List.set]
      refine tW 26 opAt26 hHeld ?_
      (try simp only [Act.put]); try simp only [List.setIfInBounds_toArray, List.set]
      refine tU 27 opAt27 hHeld ?_
      (try simp only [Act.put]); try simp only [List.setIfInBounds_toArray, List.set]
      refine tU 28 opAt28 hHeld ?_
      (try simp only [Act.put]); try simp only [List.setIfInBounds_toArray, List.set]
      refine tU 29 opAt29 hHeld ?_
      (try simp only [Act.put]); try simp only [List.setIfInBounds_toArray, List.set]
      refine tU 30 opAt30 hHeld ?_
      (try simp only [Act.put]); try simp only [List.setIfInBounds_toArray, List.set]
      refine tU 31 opAt31 hHeld ?_
      (try simp only [Act.put]); try simp only [List.setIfInBounds_toArray, List.set]
      refine tU 32 opAt32 hHeld ?_
      (try simp only [Act.put]); try simp only [List.setIfInBounds_toArray, List.set]
      refine tU 33 opAt33 hHeld ?_
      (try simp only [Act.put]); try simp only [List.setIfInBounds_toArray, List.set]
      refine tU 34 opAt34 hHeld ?_
      (try simp only [Act.put]); try simp only [List.setIfInBounds_toArray, List.set]
      refine tU 35 opAt35 hHeld ?_
      (try simp only [Act.put]); try simp only [List.setIfInBounds_toArray, List.set]
      refine tU 36 opAt36 hHeld ?_
      (try simp only [Act.put]); try simp only [List.setIfInBounds_toArray, List.set]
      refine tU 37 opAt37 hHeld ?_
      (try simp only [Act.put]); try simp only [List.setIfInBounds_toArray, List.set]
      refine tU 38 opAt38 hHeld ?_
      (try simp only [Act.put]); try simp only [List.setIfInBounds_toArray, List.set]
      refine tU 39 opAt39 hHeld ?_
      (try simp only [Act.put]); try simp only [List.setIfInBounds_toArray, List.set]
      refine tU 40 opAt40 hHeld ?_
      (try simp only [Act.put]); try simp only [List.setIfInBounds_toArray, List.set]
      refine tW 41 opAt41 hHeld ?_
      (try simp only [Act.put]); try simp only [List.setIfInBounds_toArray, List.set]
      refine wpAnyH_done (by kernel_rfl) ?_ _
      have KD := Lib.hid (KR5.out.drew)
      clear hHeld
      go_wp2
      go_roundg (n - i - 1)
      case measure => have := JI.out; omega
      case rel => exact ⟨i + 1, T, by have := JI.out; omega, by go_num, by rw [TK.out, ST.out]; exact HT.out, by rw [MN.out]; exact HTL.out, by rw [MN.out]; exact own_kept OT.out KD.out (fun _ _ f => f), keptFF KK.out KD.out⟩
    ·have b1 : (ds.toList == q.se.toList) = false := by simp [e0]
     have ST := Lib.hid (show dedI (hitT q (R.take i ++ [⟨dt, did, dp, ds, dh, dst, dd, dn⟩])) = dedI (hitT q (R.take i)) from by rw [hit_no (by rw [XM.out]; simp [e0])])
     refine wp_region_held_drew (S := (fun w' => w'.cell? ⟨tb, 0, none⟩ = some (.int .i64 dt) ∧ w'.cell? ⟨tb, 3, none⟩ = some (.string ds) ∧ w'.cell? ⟨tb, 4, none⟩ = some (.string dh) ∧ w'.cell? ⟨tb, 5, none⟩ = some (.int .i64 dst) ∧ w'.cell? ⟨qb, 0, none⟩ = some (.string q.se) ∧ w'.cell? ⟨qb, 1, none⟩ = some (.string q.ho) ∧ w'.cell? ⟨qb, 2, none⟩ = some (.int .i64 q.fr) ∧ w'.cell? ⟨qb, 3, none⟩ = some (.int .i64 q.tt))) (by kernel_rfl) ?_ (fun hHeld => ?_)
     ·exact ⟨y0, y3, y4, y5, q0, q1, q2, q3⟩
     refine tW 0 opAt0 hHeld ?_
     (try simp only [Act.put]); try simp only [List.setIfInBounds_toArray, List.set]
     refine tW 1 opAt1 hHeld ?_
     (try simp only [Act.put]); try simp only [List.setIfInBounds_toArray, List.set]
     refine tW 2 opAt2 hHeld ?_
     (try simp only [Act.put]); try simp only [List.setIfInBounds_toArray, List.set]
     refine tW 3 opAt3 hHeld ?_
     (try simp only [Act.put]); try simp only [List.setIfInBounds_toArray, List.set]
     refine tW 4 opAt4 hHeld ?_
     (try simp only [Act.put]); try simp only [List.setIfInBounds_toArray, List.set]
     refine tW 5 opAt5 hHeld ?_
     (try simp only [Act.put]); try simp only [List.setIfInBounds_toArray, List.set]
     refine tU 6 opAt6 hHeld ?_
     (try simp only [Act.put]); try simp only [List.setIfInBounds_toArray, List.set]
     refine tU 7 opAt7 hHeld ?_
     (try simp only [Act.put]); try simp only [List.setIfInBounds_toArray, List.set]
     refine tU 8 opAt8 hHeld ?_
     (try simp only [Act.put]); try simp only [List.setIfInBounds_toArray, List.set]
     refine tU 9 opAt9 hHeld ?_
     (try simp only [Act.put]); try simp only [List.setIfInBounds_toArray, List.set]
     refine tU 10 opAt10 hHeld ?_
     (try simp only [Act.put]); try simp only [List.setIfInBounds_toArray, List.set]
     refine tW 11 opAt11 hHeld ?_
     (try simp only [Act.put]); try simp only [List.setIfInBounds_toArray, List.set]
     refine tW 12 opAt12 hHeld ?_
     (try simp only [Act.put]); try simp only [List.setIfInBounds_toArray, List.set]
     refine tU 13 opAt13 hHeld ?_
     (try simp only [Act.put]); try simp only [List.setIfInBounds_toArray, List.set]
     refine tU 14 opAt14 hHeld ?_
     (try simp only [Act.put]); try simp only [List.setIfInBounds_toArray, List.set]
     refine tU 15 opAt15 hHeld ?_
     (try simp only [Act.put]); try simp only [List.setIfInBounds_toArray, List.set]
     refine tU 16 opAt16 hHeld ?_
     (try simp only [Act.put]); try simp only [List.setIfInBounds_toArray, List.set]
     refine tU 17 opAt17 hHeld ?_
     (try simp only [Act.put]); try simp only [List.setIfInBounds_toArray, List.set]
     refine tW 18 opAt18 hHeld ?_
     (try simp only [Act.put]); try simp only [List.setIfInBounds_toArray, List.set]
     refine tW 19 opAt19 hHeld ?_
     (try simp only [Act.put]); try simp only [List.setIfInBounds_toArray, List.set]
     refine tU 20 opAt20 hHeld ?_
     (try simp only [Act.put]); try simp only [List.setIfInBounds_toArray, List.set]
     refine tU 21 opAt21 hHeld ?_
     (try simp only [Act.put]); try simp only [List.setIfInBounds_toArray, List.set]
     refine tU 22 opAt22 hHeld ?_
     (try simp only [Act.put]); try simp only [List.setIfInBounds_toArray, List.set]
     refine tU 23 opAt23 hHeld ?_
     (try simp only [Act.put]); try simp only [List.setIfInBounds_toArray, List.set]
     refine tU 24 opAt24 hHeld ?_
     (try simp only [Act.put]); try simp only [List.setIfInBounds_toArray, List.set]
     refine tW 25 opAt25 hHeld ?_
     (try simp only [Act.put]); try simp only [List.setIfInBounds_toArray, List.set]
     refine tW 26 opAt26 hHeld ?_
     (try simp only [Act.put]); try simp only [List.setIfInBounds_toArray, List.set]
     refine tU 27 opAt27 hHeld ?_
     (try simp only [Act.put]); try simp only [List.setIfInBounds_toArray, List.set]
     refine tU 28 opAt28 hHeld ?_
     (try simp only [Act.put]); try simp only [List.setIfInBounds_toArray, List.set]
     refine tU 29 opAt29 hHeld ?_
     (try simp only [Act.put]); try simp only [List.setIfInBounds_toArray, List.set]
     refine tU 30 opAt30 hHeld ?_
     (try simp only [Act.put]); try simp only [List.setIfInBounds_toArray, List.set]
     refine tU 31 opAt31 hHeld ?_
     (try simp only [Act.put]); try simp only [List.setIfInBounds_toArray, List.set]
     refine tU 32 opAt32 hHeld ?_
     (try simp only [Act.put]); try simp only [List.setIfInBounds_toArray, List.set]
     refine tU 33 opAt33 hHeld ?_
     (try simp only [Act.put]); try simp only [List.setIfInBounds_toArray, List.set]
     refine tU 34 opAt34 hHeld ?_
     (try simp only [Act.put]); try simp only [List.setIfInBounds_toArray, List.set]
     refine tU 35 opAt35 hHeld ?_
     (try simp only [Act.put]); try simp only [List.setIfInBounds_toArray, List.set]
     refine tU 36 opAt36 hHeld ?_
     (try simp only [Act.put]); try simp only [List.setIfInBounds_toArray, List.set]
     refine tU 37 opAt37 hHeld ?_
     (try simp only [Act.put]); try simp only [List.setIfInBounds_toArray, List.set]
     refine tU 38 opAt38 hHeld ?_
     (try simp only [Act.put]); try simp only [List.setIfInBounds_toArray, List.set]
     refine tU 39 opAt39 hHeld ?_
     (try simp only [Act.put]); try simp only [List.setIfInBounds_toArray, List.set]
     refine tU 40 opAt40 hHeld ?_
     (try simp only [Act.put]); try simp only [List.setIfInBounds_toArray, List.set]
     refine tW 41 opAt41 hHeld ?_
     (try simp only [Act.put]); try simp only [List.setIfInBounds_toArray, List.set]
     refine wpAnyH_done (by kernel_rfl) ?_ _
     have KD := Lib.hid (KR5.out.drew)
     clear hHeld
     go_wp2
     go_roundg (n - i - 1)
     case measure => have := JI.out; omega
     case rel => exact ⟨i + 1, T, by have := JI.out; omega, by go_num, by rw [TK.out, ST.out]; exact HT.out, by rw [MN.out]; exact HTL.out, by rw [MN.out]; exact own_kept OT.out KD.out (fun _ _ f => f), keptFF KK.out KD.out⟩
   ·have EQ := Lib.hid (find_full HT.out (by rw [MN.out]; have := HTL.out; omega))
    have i3' : ¬ (m : Int) < q.li := hlt
    go_wp2
    go_ret2
    exact ⟨_, rfl, by rw [EQ.out, ← MN.out]; exact ReadsI.of_row (by rw [MN.out]; exact OT.out), keptFF K4.out KK.out⟩
  ·have i1 : ¬ (i : Int) < (n : Int) := by omega
   have EQ := Lib.hid (find_done (q := q) (R := R) (T := T) (by have h := HT.out; rwa [List.take_of_length_le (by rw [LN.out]; omega)] at h) (by rw [MN.out]; exact HTL.out))
   go_wp2
   go_ret2
   exact ⟨_, rfl, by rw [EQ.out, ← MN.out]; exact ReadsI.of_row (by rw [MN.out]; exact OT.out), keptFF K4.out KK.out⟩
end Go.Proofs.Ytibakmchgppndaa
/- A model, and the document's: what both come to is the same. Plain law. -/
namespace Go.Proofs.Ytibakmchgppndaa
open Go.RowKit

theorem putR_nil (s : Spn) : putR s [] = [s] := by unfold putR posR; simp
theorem putR_lt {s m : Spn} {t : List Spn} (h : keyLt m s) : putR s (m :: t) = m :: putR s t := by
 have e : posR s (m :: t) = posR s t + 1 := by rw [posR, if_pos h]
 have es : sameAt s (m :: t) (posR s t + 1) ↔ sameAt s t (posR s t) := by unfold sameAt; simp
 unfold putR
 rw [e, List.take_succ_cons]
 by_cases c : sameAt s t (posR s t)
 ·rw [if_pos (es.2 c), if_pos c]; simp
 ·rw [if_neg (fun d => c (es.1 d)), if_neg c]; simp
theorem putR_eq {s m : Spn} {t : List Spn} (h : ¬ keyLt m s) (hk : keyOf m = keyOf s) : putR s (m :: t) = s :: t := by
 have e : posR s (m :: t) = 0 := by rw [posR, if_neg h]
 unfold putR
 rw [e, if_pos ⟨m, rfl, hk⟩]; simp
theorem putR_gt {s m : Spn} {t : List Spn} (h : ¬ keyLt m s) (hk : ¬ keyOf m = keyOf s) : putR s (m :: t) = s :: m :: t := by
 have e : posR s (m :: t) = 0 := by rw [posR, if_neg h]
 unfold putR
 rw [e, if_neg (fun ⟨x, hx, hxk⟩ => by simp at hx; subst hx; exact hk hxk)]; simp
theorem key_lt {x y : Spn} : keyLt x y ↔ (keyOf x).1 < (keyOf y).1 ∨ (keyOf x).1 = (keyOf y).1 ∧ (keyOf x).2 < (keyOf y).2 := Iff.rfl
theorem key_tri {x y : Spn} (h : ¬ keyLt x y) (hk : ¬ keyOf x = keyOf y) : keyLt y x := by
 unfold keyLt at *
 unfold keyOf at hk
 have h2 : ¬ (x.tr = y.tr ∧ x.id = y.id) := fun e => hk (by rw [e.1, e.2])
 omega
theorem lt_trans' {x y z : Spn} (h : keyLt x y) (k : keyLt y z) : keyLt x z := by unfold keyLt at *; omega
theorem lt_key {x y z : Spn} (h : keyLt x y) (k : keyOf x = keyOf z) : keyLt z y := by
 unfold keyLt keyOf at *
 have h1 := congrArg Prod.fst k; have h2 := congrArg Prod.snd k
 simp only at h1 h2
 omega
theorem put_strict {s : Spn} : ∀ {L : List Spn}, StrictS L → StrictS (putR s L)
 | [], _ => by rw [putR_nil]; exact List.pairwise_singleton _ _
 | m :: t, h => by
  obtain ⟨h1, h2⟩ := List.pairwise_cons.1 h
  by_cases c : keyLt m s
  ·rw [putR_lt c]
   refine List.pairwise_cons.2 ⟨fun x hx => ?_, put_strict h2⟩
   rcases putR_mem hx with rfl | hx
   ·exact c
   ·exact h1 x hx
  ·by_cases k : keyOf m = keyOf s
   ·rw [putR_eq c k]
    exact List.pairwise_cons.2 ⟨fun x hx => lt_key (h1 x hx) k, h2⟩
   ·rw [putR_gt c k]
    refine List.pairwise_cons.2 ⟨fun x hx => ?_, h⟩
    have hs := key_tri c k
    rcases List.mem_cons.1 hx with rfl | hx
    ·exact hs
    ·exact lt_trans' hs (h1 x hx)
theorem put_perm {s : Spn} : ∀ {L : List Spn}, keyOf s ∉ L.map keyOf → (putR s L).Perm (s :: L)
 | [], _ => by rw [putR_nil]
 | m :: t, h => by
  simp only [List.map_cons, List.mem_cons, not_or] at h
  by_cases c : keyLt m s
  ·rw [putR_lt c]
   exact ((put_perm h.2).cons m).trans (List.Perm.swap s m t)
  ·rw [putR_gt c (fun e => h.1 e.symm)]
theorem fold_strict : ∀ (X : List Spn) {a : List Spn}, StrictS a → StrictS (X.foldl (fun a s => putR s a) a)
 | [], _, h => h
 | _ :: t, _, h => fold_strict t (put_strict h)
theorem foldR_strict (X : List Spn) : StrictS (foldR X) := fold_strict X List.Pairwise.nil
theorem fold_perm : ∀ (X : List Spn) {a : List Spn}, ((a ++ X).map keyOf).Nodup → (X.foldl (fun a s => putR s a) a).Perm (a ++ X)
 | [], a, _ => by simp
 | x :: t, a, h => by
  rw [List.foldl_cons]
  have hx : keyOf x ∉ a.map keyOf := fun hm => by
   rw [List.map_append, List.nodup_append] at h
   exact h.2.2 _ hm _ (by simp) rfl
  have p := put_perm hx
  have hp : ((putR x a) ++ t).Perm (a ++ x :: t) := (p.append_right t).trans (by rw [List.cons_append]; exact (List.perm_middle).symm)
  exact (fold_perm t ((hp.map keyOf).nodup_iff.2 h)).trans hp
theorem foldR_perm {X : List Spn} (h : (X.map keyOf).Nodup) : (foldR X).Perm X := by
 have := fold_perm X (a := []) (by simpa using h)
 simpa [foldR] using this
/-- What a model and the document's have in common, from a tick on. -/
structure Alike (now : Int) (M L : List Spn) : Prop where
 held : Held M
 may : ∀ m ∈ L, chkB m = true
 same : ∀ t, now ≤ t → (liveF t M).Perm (liveF t L)
theorem Alike.nil (now : Int) : Alike now [] [] := ⟨Held.nil, fun m hm => (by cases hm), fun _ _ => by simp [liveF]⟩
theorem Alike.later {now later : Int} {M L : List Spn} (h : Alike now M L) (hl : now ≤ later) : Alike later M L := ⟨h.held, h.may, fun t ht => h.same t (by omega)⟩
theorem Alike.once {now : Int} {M L : List Spn} (h : Alike now M L) : ((liveF now L).map keyOf).Nodup := ((h.same now (Int.le_refl _)).map keyOf).nodup_iff.1 (h.held.live now).once
theorem Alike.row {now : Int} {M L R : List Spn} (h : Alike now M L) (hp : R.Perm (liveF now M)) (hs : SortedS R) : R = rowR now L :=
 strict_unique (hp.trans ((h.same now (Int.le_refl _)).trans (foldR_perm h.once).symm)) (live_strict h.held hp hs) (foldR_strict _)
theorem mem_rowR {now : Int} {M L : List Spn} (h : Alike now M L) {x : Spn} : x ∈ rowR now L ↔ x ∈ liveF now L := (foldR_perm h.once).mem_iff
theorem barT_iff {now : Int} {s : Spn} : ∀ {L : List Spn}, barT now s L = true ↔ ∃ x ∈ L, keyOf x = keyOf s ∧ lateB x.st now = false
 | [] => by simp [barT]
 | x :: t => by
  rw [barT]
  simp only [Bool.or_eq_true, Bool.and_eq_true, decide_eq_true_eq, Bool.not_eq_true', barT_iff (L := t), List.mem_cons, exists_eq_or_imp]
theorem barO_iff {s : Spn} : ∀ {L : List Spn}, barO s L = true ↔ keyOf s ∈ L.map keyOf
 | [] => by simp [barO]
 | x :: t => by
  rw [barO]
  simp only [Bool.or_eq_true, decide_eq_true_eq, barO_iff (L := t), List.map_cons, List.mem_cons]
  constructor
  ·rintro (h | h)
   ·exact .inl h.symm
   ·exact .inr h
  ·rintro (h | h)
   ·exact .inl h.symm
   ·exact .inr h
theorem has_iff {now : Int} {k : Int × Int} {M : List Spn} (h : Held M) : hasB now k M = true ↔ ∃ x ∈ liveF now M, keyOf x = k := by
 unfold hasB
 constructor
 ·intro hh
  cases hl : lookM k M with
  | none => rw [hl] at hh; cases hh
  | some o =>
   rw [hl] at hh
   obtain ⟨h1, h2⟩ := look_mem hl
   exact ⟨o, List.mem_filter.2 ⟨h1, hh⟩, h2⟩
 ·rintro ⟨x, hx, rfl⟩
  obtain ⟨h1, h2⟩ := List.mem_filter.1 hx
  rw [look_of_mem h.once h1]
  exact h2
theorem put_live {now t : Int} (ht : now ≤ t) {s : Spn} : ∀ {M : List Spn}, hasB now (keyOf s) M = false → (liveF t (putM s M)).Perm (liveF t M ++ liveF t [s])
 | [], _ => by simp [putM, liveF]
 | m :: r, h => by
  rw [putM]
  by_cases e : keyOf s = keyOf m
  ·rw [if_pos e]
   have hm : lateB m.st t = true := by
    unfold hasB at h
    rw [lookM, if_pos e] at h
    simp at h
    unfold lateB at *
    simp at *
    omega
   have e1 : liveF t (m :: r) = liveF t r := by unfold liveF; rw [List.filter_cons_of_neg (by simp [hm])]
   rw [e1, show s :: r = [s] ++ r from rfl]
   unfold liveF
   rw [List.filter_append]
   exact List.perm_append_comm
  ·rw [if_neg e]
   have h' : hasB now (keyOf s) r = false := by
    unfold hasB at h ⊢
    rw [lookM, if_neg e] at h
    exact h
   have ih := put_live ht h'
   rw [show m :: putM s r = [m] ++ putM s r from rfl, show m :: r = [m] ++ r from rfl]
   unfold liveF at ih ⊢
   rw [List.filter_append, List.filter_append, List.append_assoc]
   exact List.Perm.append_left _ ih
theorem live_app (t : Int) (A B : List Spn) : liveF t (A ++ B) = liveF t A ++ liveF t B := by unfold liveF; exact List.filter_append _ _
theorem live_dead {t : Int} {s : Spn} (h : lateB s.st t = true) : liveF t [s] = [] := by unfold liveF; simp [h]
theorem take_both {now : Int} {L there : List Spn} (hth : ∀ x, x ∈ there ↔ x ∈ liveF now L) : ∀ (l : List Spn) (M out : List Spn) (K : List (Int × Int)), Alike now M (L ++ out) → K = out.map keyOf →
  (takeF now l M K).2 + out.length = (takeR now there l out).length ∧ Alike now (takeF now l M K).1 (L ++ takeR now there l out)
 | [], M, out, K, h, _ => ⟨by simp [takeF, takeR], h⟩
 | s :: t, M, out, K, h, hK => by
  have hsk : skipB now M K s = !okR now there out s := by
   unfold skipB okR
   by_cases c1 : chkB s = true
   ·by_cases c2 : lateB s.st now = true
    ·simp [c1, c2]
    ·by_cases c3 : keyOf s ∈ K
     ·have : barO s out = true := barO_iff.2 (hK ▸ c3)
      simp [c1, c2, c3, this]
     ·have c4 : barO s out = false := by
       cases hb : barO s out with
       | false => rfl
       | true => exact absurd (hK ▸ barO_iff.1 hb) c3
      have c5 : hasB now (keyOf s) M = barT now s there := by
       have hi : hasB now (keyOf s) M = true ↔ barT now s there = true := by
        rw [has_iff h.held, barT_iff]
        constructor
        ·rintro ⟨x, hx, hk⟩
         have hx2 := (h.same now (Int.le_refl _)).mem_iff.1 hx
         rw [live_app] at hx2
         rcases List.mem_append.1 hx2 with hx3 | hx3
         ·exact ⟨x, (hth x).2 hx3, hk, by have := (List.mem_filter.1 hx3).2; simpa using this⟩
         ·exact absurd (by rw [hK, ← hk]; exact List.mem_map_of_mem (List.mem_filter.1 hx3).1) c3
        ·rintro ⟨x, hx, hk, _⟩
         refine ⟨x, (h.same now (Int.le_refl _)).mem_iff.2 ?_, hk⟩
         rw [live_app]
         exact List.mem_append_left _ ((hth x).1 hx)
       cases h1 : hasB now (keyOf s) M <;> cases h2 : barT now s there <;> simp [h1, h2] at hi ⊢
      simp [c1, c2, c3, c4, c5]
   ·simp [c1]
  cases ho : okR now there out s with
  | false =>
   have hs : skipB now M K s = true := by rw [hsk, ho]; rfl
   rw [take_skip hs, takeR, ho]
   exact take_both hth t M out K h hK
  | true =>
   have hs : skipB now M K s = false := by rw [hsk, ho]; rfl
   rw [take_put hs, takeR, ho, if_pos rfl]
   have hc := skip_chk hs
   have hh : hasB now (keyOf s) M = false := by unfold skipB at hs; simp at hs; exact hs.2
   have A2 : Alike now (putM s M) (L ++ (out ++ [s])) := by
    refine ⟨h.held.put hc, fun m hm => ?_, fun t' ht => ?_⟩
    ·rw [← List.append_assoc] at hm
     rcases List.mem_append.1 hm with hm | hm
     ·exact h.may m hm
     ·simp at hm; subst hm; exact hc
    ·rw [← List.append_assoc, live_app t' (L ++ out) [s]]
     exact (put_live ht hh).trans ((h.same t' ht).append_right _)
   have ih := take_both hth t (putM s M) (out ++ [s]) (K ++ [keyOf s]) A2 (by rw [hK, List.map_append]; rfl)
   refine ⟨?_, ih.2⟩
   have := ih.1
   rw [List.length_append] at this
   simp at this ⊢
   omega
theorem Alike.take {now : Int} {M L : List Spn} (h : Alike now M L) (l : List Spn) : (takeF now l M []).2 = (takeR now (rowR now L) l []).length ∧ Alike now (takeF now l M []).1 (L ++ takeR now (rowR now L) l []) := by
 have := take_both (there := rowR now L) (fun x => mem_rowR h) l M [] [] (by rw [List.append_nil]; exact h) rfl
 exact ⟨by have := this.1; simpa using this, this.2⟩
theorem row_trs (now : Int) (L : List Spn) : TrS (rowR now L) := List.Pairwise.imp (fun {x y} h => by unfold keyLt at h; omega) (foldR_strict (liveF now L))
theorem row_may {now : Int} {L : List Spn} (h : ∀ m ∈ L, chkB m = true) : ∀ x ∈ rowR now L, chkB x = true := fun x hx => h x (List.mem_filter.1 (foldR_mem hx)).1
theorem row_traces {now : Int} {L : List Spn} (h : ∀ m ∈ L, chkB m = true) (a : Int) : ∀ t ∈ tracesF a (rowR now L), getOk t = true := fun t ht => by
 obtain ⟨_, x, hx, rfl⟩ := (tr_ok (after := a) _ (row_trs now L)).sound t ht
 have := (chk_num (row_may h x hx)).1
 unfold getOk
 simp; omega
theorem row_len (now : Int) (L : List Spn) : (rowR now L).length ≤ L.length := Nat.le_trans (foldR_len _) (live_len now L)
end Go.Proofs.Ytibakmchgppndaa
/- Spans compared; SameSpans; sameNodes; Same. -/
namespace Go.Proofs.Ytibakmchgppndaa
open Go.RowKit

theorem s24c : Try.prog.stoodInHeld 37 = false := by kernel_rfl
theorem g24c : Try.prog.eqGuardType Try.prog.depth 37 = false := by kernel_rfl
def eqS (m k : Spn) : Bool := decide (m.tr = k.tr) && (decide (m.id = k.id) && (decide (m.pa = k.pa) && (decide (m.se.toList = k.se.toList) && (decide (m.ho.toList = k.ho.toList) && (decide (m.st = k.st) && (decide (m.du = k.du) && decide (m.no.toList = k.no.toList)))))))
theorem bytes_ext {a b : ByteArray} (h : a.toList = b.toList) : a = b := by
 rw [ByteArray.toList_eq, ByteArray.toList_eq] at h
 cases a; cases b
 simpa using h
theorem eqS_iff (m k : Spn) : eqS m k = true ↔ m = k := by
 constructor
 ·intro h
  simp only [eqS, Bool.and_eq_true, decide_eq_true_eq] at h
  obtain ⟨h0, h1, h2, h3, h4, h5, h6, h7⟩ := h
  cases m; cases k
  simp only at h0 h1 h2 h3 h4 h5 h6 h7
  rw [h0, h1, h2, bytes_ext h3, bytes_ext h4, h5, h6, bytes_ext h7]
 ·rintro rfl; simp [eqS]
abbrev aggT (m : Spn) : Value := .agg #[.int .i64 m.tr, .int .i64 m.id, .int .i64 m.pa, .string m.se, .string m.ho, .int .i64 m.st, .int .i64 m.du, .string m.no]
set_option maxHeartbeats 2000000 in
theorem eql24 (m k : Spn) (w : World) : (binOp .eql 37 (aggT m) (aggT k)).run Try.prog w = .ok (.bool (eqS m k)) w := by
 have q := s24c
 by_cases a0 : m.tr = k.tr
 ·by_cases a1 : m.id = k.id
  ·by_cases a2 : m.pa = k.pa
   ·by_cases a3 : m.se.toList = k.se.toList
    ·by_cases a4 : m.ho.toList = k.ho.toList
     ·by_cases a5 : m.st = k.st
      ·by_cases a6 : m.du = k.du
       ·by_cases a7 : m.no.toList = k.no.toList <;> simp [go_sem, eqS, q, a0, a1, a2, a3, a4, a5, a6, a7]
       ·simp [go_sem, eqS, q, a0, a1, a2, a3, a4, a5, a6]
      ·simp [go_sem, eqS, q, a0, a1, a2, a3, a4, a5]
     ·simp [go_sem, eqS, q, a0, a1, a2, a3, a4]
    ·simp [go_sem, eqS, q, a0, a1, a2, a3]
   ·simp [go_sem, eqS, q, a0, a1, a2]
  ·simp [go_sem, eqS, q, a0, a1]
 ·simp [go_sem, eqS, q, a0]
end Go.Proofs.Ytibakmchgppndaa
/- SameSpans; sameNodes; Same. -/
namespace Go.Proofs.Ytibakmchgppndaa
open Go.RowKit

theorem neq24 (m k : Spn) (w : World) : (binOp .neq 37 (aggT m) (aggT k)).run Try.prog w = .ok (.bool (!eqS m k)) w := by
 have q := s24c
 by_cases a0 : m.tr = k.tr
 ·by_cases a1 : m.id = k.id
  ·by_cases a2 : m.pa = k.pa
   ·by_cases a3 : m.se.toList = k.se.toList
    ·by_cases a4 : m.ho.toList = k.ho.toList
     ·by_cases a5 : m.st = k.st
      ·by_cases a6 : m.du = k.du
       ·by_cases a7 : m.no.toList = k.no.toList <;> simp [go_sem, eqS, q, a0, a1, a2, a3, a4, a5, a6, a7]
       ·simp [go_sem, eqS, q, a0, a1, a2, a3, a4, a5, a6]
      ·simp [go_sem, eqS, q, a0, a1, a2, a3, a4, a5]
     ·simp [go_sem, eqS, q, a0, a1, a2, a3, a4]
    ·simp [go_sem, eqS, q, a0, a1, a2, a3]
   ·simp [go_sem, eqS, q, a0, a1, a2]
  ·simp [go_sem, eqS, q, a0, a1]
 ·simp [go_sem, eqS, q, a0]
theorem eqS_false {m k : Spn} : eqS m k = false ↔ m ≠ k := by
 rw [ne_eq, ← eqS_iff m k]; simp
noncomputable def sameB {α : Type} (a b : α) : Bool := @decide (a = b) (Classical.propDecidable _)
theorem sameB_true {α : Type} {a b : α} : sameB a b = true ↔ a = b := by unfold sameB; exact @decide_eq_true_iff _ (Classical.propDecidable _)
theorem sameB_false {α : Type} {a b : α} : sameB a b = false ↔ ¬ a = b := by unfold sameB; exact @decide_eq_false_iff_not _ (Classical.propDecidable _)
theorem sameB_refl {α : Type} (a : α) : sameB a a = true := sameB_true.2 rfl

set_option maxHeartbeats 4000000 in
set_option maxRecDepth 100000 in
theorem samespans_any (w : World) (va vb : Value) (A B : List Spn) (ha : ReadsS w va A) (hb : ReadsS w vb B) (hl : A.length ≤ 1000) :
  Calls Try.prog 11 #[va, vb] w fun e w' => e = .returned (.bool (sameB A B)) ∧ Kept (fun _ => False) w w' := by
 obtain ⟨ao, ca, rfl, ra⟩ := ha
 obtain ⟨bo, cb, rfl, rb⟩ := hb
 have RA := Lib.hid ra; have RB := Lib.hid rb
 clear ra rb
 by_cases hlen : A.length = B.length
 ·obtain ⟨n, hn⟩ : ∃ n, A.length = n := ⟨_, rfl⟩
  rw [← hlen, hn]
  rw [hn] at hl
  have d0 : ((n : Int) != (n : Int)) = false := by simp
  have HA := Lib.hid hn; have HB := Lib.hid (show B.length = n from by omega)
  clear hlen hn
  have q0 := s24c
  have q1 := g24c
  have q2 := neq24
  go_enter Try.func11, Try.ntmps11
  go_wp2
  go_loopg [5] n (fun ghv s wr => ∃ (i : Nat), i + ghv = n ∧ s = .int .i64 i ∧ (∀ t, t < i → nth A t = nth B t) ∧ Kept (fun _ => False) w wr)
  case atStart => exact ⟨0, by omega, by go_num, fun t h => by omega, Kept.refl _ _⟩
  case round =>
   obtain ⟨i, hg1, rfl, heq, hk⟩ := hrel
   have G1 := Lib.hid hg1; have EQ := Lib.hid heq; have KK := Lib.hid hk
   clear hg1 heq hk
   by_cases hin : i < n
   ·have i0 : (i : Int) < (n : Int) := by omega
    have i1 : (0 : Int) ≤ (i : Int) := by omega
    have e1 : IntKind.i64.wrap ((i : Int) + 1) = ((i + 1 : Nat) : Int) := IntWalk.i64_in _ (by omega)
    obtain ⟨g1, o1, rfl, hc1⟩ : ∃ g o, ao = some ⟨g, o, none⟩ ∧ ∀ j u, (cellsS A)[j]? = some u → w.cell? ⟨g, o + j, none⟩ = some u := by
     rcases RA.out with h | h
     ·have := HA.out; subst h; simp at this; omega
     ·exact h
    obtain ⟨g2, o2, rfl, hc2⟩ : ∃ g o, bo = some ⟨g, o, none⟩ ∧ ∀ j u, (cellsS B)[j]? = some u → w.cell? ⟨g, o + j, none⟩ = some u := by
     rcases RB.out with h | h
     ·have := HB.out; subst h; simp at this; omega
     ·exact h
    obtain ⟨x, hx⟩ : ∃ x, nth A i = x := ⟨_, rfl⟩
    obtain ⟨y, hy⟩ : ∃ x, nth B i = x := ⟨_, rfl⟩
    have gx := nth_get (l := A) (k := i) (by rw [HA.out]; exact hin)
    have gy := nth_get (l := B) (k := i) (by rw [HB.out]; exact hin)
    rw [hx] at gx
    rw [hy] at gy
    have rx := ReadsS.range (fun j u hu => KK.out.cell (hc1 j u hu) (fun f => f)) gx
    have ry := ReadsS.range (fun j u hu => KK.out.cell (hc2 j u hu) (fun f => f)) gy
    have HX := Lib.hid hx; have HY := Lib.hid hy
    clear hx hy gx gy hc1 hc2
    cases hxy : eqS x y with
    | true =>
     have EX := Lib.hid ((eqS_iff x y).1 hxy)
     go_wp2
     refine wp_region_held_drew (S := (fun w' => w'.rangeAt g1 (o1 + i * 8) x.cells ∧ w'.rangeAt g2 (o2 + i * 8) y.cells)) (by kernel_rfl) ?_ (fun hHeld => ?_)
     ·exact ⟨rx, ry⟩
     refine tW 0 opAt0 hHeld ?_
     (try simp only [Act.put]); try simp only [z2, List.set]
     refine tW 1 opAt1 hHeld ?_
     (try simp only [Act.put]); try simp only [z2, List.set]
     refine tW 2 opAt2 hHeld ?_
     (try simp only [Act.put]); try simp only [z2, List.set]
     refine wpAnyH_take (i := 3) (v := aggT x) opAt3 (by kernel_rfl) (by kernel_rfl) (by kernel_rfl) (fun _ _ _ h => h) (yieldsIf_load_mid (by rfl) 37 _ (by rfl) g1 (o1 + i * 8) (by rfl) x.cells _ (fun w hS => hS.1) Try.underlying37 rfl info24) hHeld ?_
     (try simp only [Act.put]); try simp only [z2, List.set]
     refine tW 4 opAt4 hHeld ?_
     (try simp only [Act.put]); try simp only [z2, List.set]
     refine tW 5 opAt5 hHeld ?_
     (try simp only [Act.put]); try simp only [z2, List.set]
     refine tW 6 opAt6 hHeld ?_
     (try simp only [Act.put]); try simp only [z2, List.set]
     refine wpAnyH_take (i := 7) (v := aggT y) opAt7 (by kernel_rfl) (by kernel_rfl) (by kernel_rfl) (fun _ _ _ h => h) (yieldsIf_load_mid (by rfl) 37 _ (by rfl) g2 (o2 + i * 8) (by rfl) y.cells _ (fun w hS => hS.2) Try.underlying37 rfl info24) hHeld ?_
     (try simp only [Act.put]); try simp only [z2, List.set]
     refine tW 8 opAt8 hHeld ?_
     (try simp only [Act.put]); try simp only [z2, List.set]
     refine wpAnyH_done (by kernel_rfl) ?_ _
     go_wp2
     go_roundg (n - (i + 1))
     case measure => have := G1.out; omega
     case rel => exact ⟨i + 1, by omega, by go_num, fun t ht => by
      by_cases c : t = i
      ·subst c; rw [HX.out, HY.out]; exact EX.out
      ·exact EQ.out t (by omega), KK.out.drew⟩
    | false =>
     have FF := Lib.hid (show sameB A B = false from sameB_false.2 (fun e => by
      have := HX.out
      rw [e, HY.out] at this
      exact (eqS_false.1 hxy) this.symm))
     go_wp2
     refine wp_region_held_drew (S := (fun w' => w'.rangeAt g1 (o1 + i * 8) x.cells ∧ w'.rangeAt g2 (o2 + i * 8) y.cells)) (by kernel_rfl) ?_ (fun hHeld => ?_)
     ·exact ⟨rx, ry⟩
     refine tW 0 opAt0 hHeld ?_
     (try simp only [Act.put]); try simp only [z2, List.set]
     refine tW 1 opAt1 hHeld ?_
     (try simp only [Act.put]); try simp only [z2, List.set]
     refine tW 2 opAt2 hHeld ?_
     (try simp only [Act.put]); try simp only [z2, List.set]
     refine wpAnyH_take (i := 3) (v := aggT x) opAt3 (by kernel_rfl) (by kernel_rfl) (by kernel_rfl) (fun _ _ _ h => h) (yieldsIf_load_mid (by rfl) 37 _ (by rfl) g1 (o1 + i * 8) (by rfl) x.cells _ (fun w hS => hS.1) Try.underlying37 rfl info24) hHeld ?_
     (try simp only [Act.put]); try simp only [z2, List.set]
     refine tW 4 opAt4 hHeld ?_
     (try simp only [Act.put]); try simp only [z2, List.set]
     refine tW 5 opAt5 hHeld ?_
     (try simp only [Act.put]); try simp only [z2, List.set]
     refine tW 6 opAt6 hHeld ?_
     (try simp only [Act.put]); try simp only [z2, List.set]
     refine wpAnyH_take (i := 7) (v := aggT y) opAt7 (by kernel_rfl) (by kernel_rfl) (by kernel_rfl) (fun _ _ _ h => h) (yieldsIf_load_mid (by rfl) 37 _ (by rfl) g2 (o2 + i * 8) (by rfl) y.cells _ (fun w hS => hS.2) Try.underlying37 rfl info24) hHeld ?_
     (try simp only [Act.put]); try simp only [z2, List.set]
     refine tW 8 opAt8 hHeld ?_
     (try simp only [Act.put]); try simp only [z2, List.set]
     refine wpAnyH_done (by kernel_rfl) ?_ _
     go_wp2
     go_ret
     exact ⟨by rw [FF.out]; rfl, KK.out.drew⟩
   ·have i0 : ¬ (i : Int) < (n : Int) := by omega
    have TT := Lib.hid (show sameB A B = true from sameB_true.2 (ext_nth (by rw [HA.out, HB.out]) (fun k hk => EQ.out k (by rw [HA.out] at hk; omega))))
    go_wp2
    go_ret
    exact ⟨by rw [TT.out]; rfl, KK.out⟩
 ·have d0 : ((A.length : Int) != (B.length : Int)) = true := by simp; omega
  have FF := Lib.hid (show sameB A B = false from sameB_false.2 (fun e => hlen (by rw [e])))
  clear hlen
  go_enter Try.func11, Try.ntmps11
  go_wp2
  go_ret
  exact ⟨by rw [FF.out]; rfl, Kept.refl _ _⟩

/-- No list in it is longer. -/
def Fr.wide (b : Nat) : Fr → Prop
 | .nil => True
 | .cons _ k r => k.len ≤ b ∧ k.wide b ∧ r.wide b
def Fr.size : Fr → Nat
 | .nil => 0
 | .cons _ k r => k.size + r.size + 1
theorem Fr.len_zero : ∀ {f : Fr}, f.len = 0 → f = .nil
 | .nil, _ => rfl
 | .cons _ _ r, h => by simp [Fr.len] at h
set_option maxHeartbeats 4000000 in
set_option maxRecDepth 100000 in
theorem samenodes_any (S1 S2 : Nat → Prop) : ∀ (N : Nat) (w : World) (va vb : Value) (f1 f2 : Fr), f1.size < N → f1.len ≤ 1000 ∧ f1.wide 1000 → ReadsF S1 w va f1 → ReadsF S2 w vb f2 →
  Calls Try.prog 26 #[va, vb] w fun e w' => e = .returned (.bool (sameB f1 f2)) ∧ Kept (fun _ => False) w w' := by
 intro N
 induction N with
 | zero => intro w va vb f1 f2 h; omega
 | succ N ih =>
  intro w va vb f1 f2 hsz hwd ha hb
  obtain ⟨hl, hwd⟩ := hwd
  obtain ⟨ao, ca, rfl, ra⟩ := ha
  obtain ⟨bo, cb, rfl, rb⟩ := hb
  have RA := Lib.hid ra; have RB := Lib.hid rb
  have SZ := Lib.hid hsz; have WD := Lib.hid hwd
  clear ra rb hsz hwd
  by_cases hlen : f1.len = f2.len
  ·obtain ⟨n, hn⟩ : ∃ n, f1.len = n := ⟨_, rfl⟩
   rw [← hlen, hn]
   rw [hn] at hl
   have d0 : ((n : Int) != (n : Int)) = false := by simp
   have HA := Lib.hid hn; have HB := Lib.hid (show f2.len = n from by omega)
   clear hlen hn
   have q0 := s24c
   have q1 := g24c
   have q2 := neq24
   go_enter Try.func26, Try.ntmps26
   go_wp2
   go_loopg [5] n (fun ghv s wr => ∃ (i : Nat) (r1 r2 : Fr), i + ghv = n ∧ s = .int .i64 i ∧ i + r1.len = n ∧ i + r2.len = n ∧ r1.size ≤ f1.size ∧ r1.wide 1000 ∧ sameB f1 f2 = sameB r1 r2 ∧ (∀ g o, ao = some ⟨g, o, none⟩ → f1 = .nil ∨ RowF S1 wr g (o + i * 9) r1) ∧ (∀ g o, bo = some ⟨g, o, none⟩ → f2 = .nil ∨ RowF S2 wr g (o + i * 9) r2) ∧ Kept (fun _ => False) w wr)
   case atStart => exact ⟨0, f1, f2, by omega, by go_num, by have := HA.out; omega, by have := HB.out; omega, Nat.le_refl _, WD.out, rfl, fun g o e => RA.out.imp id (fun ⟨g', o', e', h⟩ => by rw [e] at e'; cases e'; rw [Nat.zero_mul, Nat.add_zero]; exact h), fun g o e => RB.out.imp id (fun ⟨g', o', e', h⟩ => by rw [e] at e'; cases e'; rw [Nat.zero_mul, Nat.add_zero]; exact h), Kept.refl _ _⟩
   case round =>
    obtain ⟨i, r1, r2, hg1, rfl, hl1, hl2, hs1, hw1, hsame, hr1, hr2, hk⟩ := hrel
    have G1 := Lib.hid hg1; have L1 := Lib.hid hl1; have L2 := Lib.hid hl2; have HS1 := Lib.hid hs1; have HW := Lib.hid hw1; have SAME := Lib.hid hsame; have HR1 := Lib.hid hr1; have HR2 := Lib.hid hr2; have KK := Lib.hid hk
    clear hg1 hl1 hl2 hs1 hw1 hsame hr1 hr2 hk
    by_cases hin : i < n
    ·have i0 : (i : Int) < (n : Int) := by omega
     have i1 : (0 : Int) ≤ (i : Int) := by omega
     have e1 : IntKind.i64.wrap ((i : Int) + 1) = ((i + 1 : Nat) : Int) := IntWalk.i64_in _ (by omega)
     cases r1 with
     | nil => have := L1.out; simp [Fr.len] at this; omega
     | cons x k1 r1 =>
      cases r2 with
      | nil => have := L2.out; simp [Fr.len] at this; omega
      | cons y k2 r2 =>
       obtain ⟨g1, o1, rfl, _⟩ : ∃ g o, ao = some ⟨g, o, none⟩ ∧ RowF S1 w g o f1 := by
        rcases RA.out with h | h
        ·have := HA.out; subst h; simp [Fr.len] at this; omega
        ·exact h
       obtain ⟨g2, o2, rfl, _⟩ : ∃ g o, bo = some ⟨g, o, none⟩ ∧ RowF S2 w g o f2 := by
        rcases RB.out with h | h
        ·have := HB.out; subst h; simp [Fr.len] at this; omega
        ·exact h
       have nn1 : f1 ≠ .nil := fun e => by have := HA.out; rw [e] at this; simp [Fr.len] at this; omega
       have nn2 : f2 ≠ .nil := fun e => by have := HB.out; rw [e] at this; simp [Fr.len] at this; omega
       obtain ⟨_, rx, ⟨a1, c1, kx, rk1⟩, rr1⟩ := (HR1.out g1 o1 rfl).resolve_left nn1
       obtain ⟨_, ry, ⟨a2, c2, ky, rk2⟩, rr2⟩ := (HR2.out g2 o2 rfl).resolve_left nn2
       have RK1 := Lib.hid (show ReadsF S1 wr (.slice a1 k1.len c1) k1 from ⟨a1, c1, rfl, rk1⟩)
       have RK2 := Lib.hid (show ReadsF S2 wr (.slice a2 k2.len c2) k2 from ⟨a2, c2, rfl, rk2⟩)
       have RR1 := Lib.hid rr1; have RR2 := Lib.hid rr2
       have HSZ := Lib.hid (show k1.size < N from by have h1 := HS1.out; have h2 := SZ.out; simp only [Fr.size] at h1; omega)
       have HW1 := Lib.hid (show k1.len ≤ 1000 ∧ k1.wide 1000 from ⟨HW.out.1, HW.out.2.1⟩)
       obtain ⟨n1, hn1⟩ : ∃ n, k1.len = n := ⟨_, rfl⟩
       obtain ⟨n2, hn2⟩ : ∃ n, k2.len = n := ⟨_, rfl⟩
       rw [hn1] at kx RK1
       rw [hn2] at ky RK2
       clear rr1 rr2 rk1 rk2 nn1 nn2 hn1 hn2
       cases hxy : eqS x y with
       | true =>
        have EX := Lib.hid ((eqS_iff x y).1 hxy)
        cases hkk : sameB k1 k2 with
        | true =>
         have HS := Lib.hid hkk
         clear hkk
         go_wp2
         refine wp_region_held_drew (S := (fun w' => w'.rangeAt g1 (o1 + i * 9) x.cells ∧ w'.rangeAt g2 (o2 + i * 9) y.cells ∧ w'.cell? ⟨g1, o1 + i * 9 + 8, none⟩ = some (.slice a1 n1 c1) ∧ w'.cell? ⟨g2, o2 + i * 9 + 8, none⟩ = some (.slice a2 n2 c2))) (by kernel_rfl) ?_ (fun hHeld => ?_)
         ·exact ⟨rx, ry, kx, ky⟩
         refine tW 0 opAt0 hHeld ?_
         (try simp only [Act.put]); try simp only [z2, List.set]
         refine tW 1 opAt1 hHeld ?_
         (try simp only [Act.put]); try simp only [z2, List.set]
         refine tW 2 opAt2 hHeld ?_
         (try simp only [Act.put]); try simp only [z2, List.set]
         refine tW 3 opAt3 hHeld ?_
         (try simp only [Act.put]); try simp only [z2, List.set]
         refine wpAnyH_take (i := 4) (v := aggT x) opAt4 (by kernel_rfl) (by kernel_rfl) (by kernel_rfl) (fun _ _ _ h => h) (yieldsIf_load_mid (by rfl) 37 _ (by rfl) g1 (o1 + i * 9) (by rfl) x.cells _ (fun w hS => hS.1) Try.underlying37 rfl info24) hHeld ?_
         (try simp only [Act.put]); try simp only [z2, List.set]
         refine tW 5 opAt5 hHeld ?_
         (try simp only [Act.put]); try simp only [z2, List.set]
         refine tW 6 opAt6 hHeld ?_
         (try simp only [Act.put]); try simp only [z2, List.set]
         refine tW 7 opAt7 hHeld ?_
         (try simp only [Act.put]); try simp only [z2, List.set]
         refine tW 8 opAt8 hHeld ?_
         (try simp only [Act.put]); try simp only [z2, List.set]
         refine wpAnyH_take (i := 9) (v := aggT y) opAt9 (by kernel_rfl) (by kernel_rfl) (by kernel_rfl) (fun _ _ _ h => h) (yieldsIf_load_mid (by rfl) 37 _ (by rfl) g2 (o2 + i * 9) (by rfl) y.cells _ (fun w hS => hS.2.1) Try.underlying37 rfl info24) hHeld ?_
         (try simp only [Act.put]); try simp only [z2, List.set]
         refine tW 10 opAt10 hHeld ?_
         (try simp only [Act.put]); try simp only [z2, List.set]
         refine tW 11 opAt11 hHeld ?_
         (try simp only [Act.put]); try simp only [z2, List.set]
         refine tW 12 opAt12 hHeld ?_
         (try simp only [Act.put]); try simp only [z2, List.set]
         refine tW 13 opAt13 hHeld ?_
         (try simp only [Act.put]); try simp only [z2, List.set]
         refine tW 14 opAt14 hHeld ?_
         (try simp only [Act.put]); try simp only [z2, List.set]
         refine tW 15 opAt15 hHeld ?_
         (try simp only [Act.put]); try simp only [z2, List.set]
         refine tW 16 opAt16 hHeld ?_
         (try simp only [Act.put]); try simp only [z2, List.set]
         refine tW 17 opAt17 hHeld ?_
         (try simp only [Act.put]); try simp only [z2, List.set]
         refine tW 18 opAt18 hHeld ?_
         (try simp only [Act.put]); try simp only [z2, List.set]
         refine tW 19 opAt19 hHeld ?_
         (try simp only [Act.put]); try simp only [z2, List.set]
         refine tW 20 opAt20 hHeld ?_
         (try simp only [Act.put]); try simp only [z2, List.set]
         refine tW 21 opAt21 hHeld ?_
         (try simp only [Act.put]); try simp only [z2, List.set]
         refine wpAnyH_ready (rs := [22]) (by kernel_rfl) (by simp) ?_
         refine AllReadyH.cons opAt22 (fun K hK => ?_) AllReadyH.nil
         go_simp
         go_at_call 26; refine (ih _ _ _ k1 k2 (HSZ.out) (HW1.out) (RK1.out.kept (Kept.refl _ wr).drew) (RK2.out.kept (Kept.refl _ wr).drew)).mono ?_; rintro e w5 ⟨rfl, k5⟩; rw [HS.out]; have K5 := Lib.hid (keptFF (Kept.refl _ wr).drew k5); dsimp only
         refine hK.out _ _ ?_ (fun hHeld => ?_)
         ·exact ⟨fun k v hv => k5.cell (hHeld.1 k v hv) (fun f => f), fun k v hv => k5.cell (hHeld.2.1 k v hv) (fun f => f), k5.cell hHeld.2.2.1 (fun f => f), k5.cell hHeld.2.2.2 (fun f => f)⟩
         clear hK K
         (try simp only [Act.put]); try simp only [z2, List.set]
         refine tW 23 opAt23 hHeld ?_
         (try simp only [Act.put]); try simp only [z2, List.set]
         refine tW 24 opAt24 hHeld ?_
         (try simp only [Act.put]); try simp only [z2, List.set]
         refine wpAnyH_done (by kernel_rfl) ?_ _
         go_wp2
         go_roundg (n - (i + 1))
         case measure => have := G1.out; omega
         case rel => exact ⟨i + 1, r1, r2, by omega, by go_num, by have h := L1.out; simp only [Fr.len] at h; omega, by have h := L2.out; simp only [Fr.len] at h; omega, by have h := HS1.out; simp only [Fr.size] at h; omega, HW.out.2.2, by
          rw [SAME.out]
          have e1 := EX.out
          have e2 := sameB_true.1 HS.out
          rw [e1, e2, Bool.eq_iff_iff, sameB_true, sameB_true]
          exact ⟨fun h => by cases h; rfl, fun h => by rw [h]⟩, fun g o e => .inr (by cases e; rw [Nat.succ_mul, ← Nat.add_assoc]; exact RowF.kept K5.out (fun _ _ _ f => f) (fun _ _ h => h) r1 RR1.out), fun g o e => .inr (by cases e; rw [Nat.succ_mul, ← Nat.add_assoc]; exact RowF.kept K5.out (fun _ _ _ f => f) (fun _ _ h => h) r2 RR2.out), keptFF KK.out K5.out⟩
        | false =>
         have HS := Lib.hid hkk
         clear hkk
         have FF := Lib.hid (show sameB f1 f2 = false from by rw [SAME.out, sameB_false]; intro e; cases e; exact absurd rfl (sameB_false.1 HS.out))
         go_wp2
         refine wp_region_held_drew (S := (fun w' => w'.rangeAt g1 (o1 + i * 9) x.cells ∧ w'.rangeAt g2 (o2 + i * 9) y.cells ∧ w'.cell? ⟨g1, o1 + i * 9 + 8, none⟩ = some (.slice a1 n1 c1) ∧ w'.cell? ⟨g2, o2 + i * 9 + 8, none⟩ = some (.slice a2 n2 c2))) (by kernel_rfl) ?_ (fun hHeld => ?_)
         ·exact ⟨rx, ry, kx, ky⟩
         refine tW 0 opAt0 hHeld ?_
         (try simp only [Act.put]); try simp only [z2, List.set]
         refine tW 1 opAt1 hHeld ?_
         (try simp only [Act.put]); try simp only [z2, List.set]
         refine tW 2 opAt2 hHeld ?_
         (try simp only [Act.put]); try simp only [z2, List.set]
         refine tW 3 opAt3 hHeld ?_
         (try simp only [Act.put]); try simp only [z2, List.set]
         refine wpAnyH_take (i := 4) (v := aggT x) opAt4 (by kernel_rfl) (by kernel_rfl) (by kernel_rfl) (fun _ _ _ h => h) (yieldsIf_load_mid (by rfl) 37 _ (by rfl) g1 (o1 + i * 9) (by rfl) x.cells _ (fun w hS => hS.1) Try.underlying37 rfl info24) hHeld ?_
         (try simp only [Act.put]); try simp only [z2, List.set]
         refine tW 5 opAt5 hHeld ?_
         (try simp only [Act.put]); try simp only [z2, List.set]
         refine tW 6 opAt6 hHeld ?_
         (try simp only [Act.put]); try simp only [z2, List.set]
         refine tW 7 opAt7 hHeld ?_
         (try simp only [Act.put]); try simp only [z2, List.set]
         refine tW 8 opAt8 hHeld ?_
         (try simp only [Act.put]); try simp only [z2, List.set]
         refine wpAnyH_take (i := 9) (v := aggT y) opAt9 (by kernel_rfl) (by kernel_rfl) (by kernel_rfl) (fun _ _ _ h => h) (yieldsIf_load_mid (by rfl) 37 _ (by rfl) g2 (o2 + i * 9) (by rfl) y.cells _ (fun w hS => hS.2.1) Try.underlying37 rfl info24) hHeld ?_
         (try simp only [Act.put]); try simp only [z2, List.set]
         refine tW 10 opAt10 hHeld ?_
         (try simp only [Act.put]); try simp only [z2, List.set]
         refine tW 11 opAt11 hHeld ?_
         (try simp only [Act.put]); try simp only [z2, List.set]
         refine tW 12 opAt12 hHeld ?_
         (try simp only [Act.put]); try simp only [z2, List.set]
         refine tW 13 opAt13 hHeld ?_
         (try simp only [Act.put]); try simp only [z2, List.set]
         refine tW 14 opAt14 hHeld ?_
         (try simp only [Act.put]); try simp only [z2, List.set]
         refine tW 15 opAt15 hHeld ?_
         (try simp only [Act.put]); try simp only [z2, List.set]
         refine tW 16 opAt16 hHeld ?_
         (try simp only [Act.put]); try simp only [z2, List.set]
         refine tW 17 opAt17 hHeld ?_
         (try simp only [Act.put]); try simp only [z2, List.set]
         refine tW 18 opAt18 hHeld ?_
         (try simp only [Act.put]); try simp only [z2, List.set]
         refine tW 19 opAt19 hHeld ?_
         (try simp only [Act.put]); try simp only [z2, List.set]
         refine tW 20 opAt20 hHeld ?_
         (try simp only [Act.put]); try simp only [z2, List.set]
         refine tW 21 opAt21 hHeld ?_
         (try simp only [Act.put]); try simp only [z2, List.set]
         refine wpAnyH_ready (rs := [22]) (by kernel_rfl) (by simp) ?_
         refine AllReadyH.cons opAt22 (fun K hK => ?_) AllReadyH.nil
         go_simp
         go_at_call 26; refine (ih _ _ _ k1 k2 (HSZ.out) (HW1.out) (RK1.out.kept (Kept.refl _ wr).drew) (RK2.out.kept (Kept.refl _ wr).drew)).mono ?_; rintro e w5 ⟨rfl, k5⟩; rw [HS.out]; have K5 := Lib.hid (keptFF (Kept.refl _ wr).drew k5); dsimp only
         refine hK.out _ _ ?_ (fun hHeld => ?_)
         ·exact ⟨fun k v hv => k5.cell (hHeld.1 k v hv) (fun f => f), fun k v hv => k5.cell (hHeld.2.1 k v hv) (fun f => f), k5.cell hHeld.2.2.1 (fun f => f), k5.cell hHeld.2.2.2 (fun f => f)⟩
         clear hK K
         (try simp only [Act.put]); try simp only [z2, List.set]
         refine tW 23 opAt23 hHeld ?_
         (try simp only [Act.put]); try simp only [z2, List.set]
         refine tW 24 opAt24 hHeld ?_
         (try simp only [Act.put]); try simp only [z2, List.set]
         refine wpAnyH_done (by kernel_rfl) ?_ _
         go_wp2
         go_ret
         exact ⟨by rw [FF.out]; rfl, keptFF KK.out K5.out⟩
       | false =>
        have FF := Lib.hid (show sameB f1 f2 = false from by rw [SAME.out, sameB_false]; intro e; cases e; exact absurd rfl (eqS_false.1 hxy))
        go_wp2
        refine wp_region_held_drew (S := (fun w' => w'.rangeAt g1 (o1 + i * 9) x.cells ∧ w'.rangeAt g2 (o2 + i * 9) y.cells ∧ w'.cell? ⟨g1, o1 + i * 9 + 8, none⟩ = some (.slice a1 n1 c1) ∧ w'.cell? ⟨g2, o2 + i * 9 + 8, none⟩ = some (.slice a2 n2 c2))) (by kernel_rfl) ?_ (fun hHeld => ?_)
        ·exact ⟨rx, ry, kx, ky⟩
        refine tW 0 opAt0 hHeld ?_
        (try simp only [Act.put]); try simp only [z2, List.set]
        refine tW 1 opAt1 hHeld ?_
        (try simp only [Act.put]); try simp only [z2, List.set]
        refine tW 2 opAt2 hHeld ?_
        (try simp only [Act.put]); try simp only [z2, List.set]
        refine tW 3 opAt3 hHeld ?_
        (try simp only [Act.put]); try simp only [z2, List.set]
        refine wpAnyH_take (i := 4) (v := aggT x) opAt4 (by kernel_rfl) (by kernel_rfl) (by kernel_rfl) (fun _ _ _ h => h) (yieldsIf_load_mid (by rfl) 37 _ (by rfl) g1 (o1 + i * 9) (by rfl) x.cells _ (fun w hS => hS.1) Try.underlying37 rfl info24) hHeld ?_
        (try simp only [Act.put]); try simp only [z2, List.set]
        refine tW 5 opAt5 hHeld ?_
        (try simp only [Act.put]); try simp only [z2, List.set]
        refine tW 6 opAt6 hHeld ?_
        (try simp only [Act.put]); try simp only [z2, List.set]
        refine tW 7 opAt7 hHeld ?_
        (try simp only [Act.put]); try simp only [z2, List.set]
        refine tW 8 opAt8 hHeld ?_
        (try simp only [Act.put]); try simp only [z2, List.set]
        refine wpAnyH_take (i := 9) (v := aggT y) opAt9 (by kernel_rfl) (by kernel_rfl) (by kernel_rfl) (fun _ _ _ h => h) (yieldsIf_load_mid (by rfl) 37 _ (by rfl) g2 (o2 + i * 9) (by rfl) y.cells _ (fun w hS => hS.2.1) Try.underlying37 rfl info24) hHeld ?_
        (try simp only [Act.put]); try simp only [z2, List.set]
        refine tW 10 opAt10 hHeld ?_
        (try simp only [Act.put]); try simp only [z2, List.set]
        refine tW 11 opAt11 hHeld ?_
        (try simp only [Act.put]); try simp only [z2, List.set]
        refine tU 12 opAt12 hHeld ?_
        (try simp only [Act.put]); try simp only [z2, List.set]
        refine tU 13 opAt13 hHeld ?_
        (try simp only [Act.put]); try simp only [z2, List.set]
        refine tU 14 opAt14 hHeld ?_
        (try simp only [Act.put]); try simp only [z2, List.set]
        refine tU 15 opAt15 hHeld ?_
        (try simp only [Act.put]); try simp only [z2, List.set]
        refine tU 16 opAt16 hHeld ?_
        (try simp only [Act.put]); try simp only [z2, List.set]
        refine tU 17 opAt17 hHeld ?_
        (try simp only [Act.put]); try simp only [z2, List.set]
        refine tU 18 opAt18 hHeld ?_
        (try simp only [Act.put]); try simp only [z2, List.set]
        refine tU 19 opAt19 hHeld ?_
        (try simp only [Act.put]); try simp only [z2, List.set]
        refine tU 20 opAt20 hHeld ?_
        (try simp only [Act.put]); try simp only [z2, List.set]
        refine tU 21 opAt21 hHeld ?_
        (try simp only [Act.put]); try simp only [z2, List.set]
        refine tU 22 opAt22 hHeld ?_
        (try simp only [Act.put]); try simp only [z2, List.set]
        refine tU 23 opAt23 hHeld ?_
        (try simp only [Act.put]); try simp only [z2, List.set]
        refine tW 24 opAt24 hHeld ?_
        (try simp only [Act.put]); try simp only [z2, List.set]
        refine wpAnyH_done (by kernel_rfl) ?_ _
        go_wp2
        go_ret
        exact ⟨by rw [FF.out]; rfl, KK.out.drew⟩
    ·have i0 : ¬ (i : Int) < (n : Int) := by omega
     have TT := Lib.hid (show sameB f1 f2 = true from by
      have h1 := L1.out; have h2 := L2.out
      rw [SAME.out, Fr.len_zero (f := r1) (by omega), Fr.len_zero (f := r2) (by omega)]
      exact sameB_refl _)
     go_wp2
     go_ret
     exact ⟨by rw [TT.out]; rfl, KK.out⟩
  ·have d0 : ((f1.len : Int) != (f2.len : Int)) = true := by simp; omega
   have FF := Lib.hid (show sameB f1 f2 = false from sameB_false.2 (fun e => hlen (by rw [e])))
   clear hlen
   go_enter Try.func26, Try.ntmps26
   go_wp2
   go_ret
   exact ⟨by rw [FF.out]; rfl, Kept.refl _ _⟩
end Go.Proofs.Ytibakmchgppndaa
