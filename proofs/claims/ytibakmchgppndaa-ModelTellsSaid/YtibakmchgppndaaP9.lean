/- Rget, Del, SpansC, TCounted, TRhead, TRnode -/
import Derived.Test.YtibakmchgppndaaP8
/- spoorref21's Get: a trace's spans. -/
namespace Go.Proofs.Ytibakmchgppndaa
open Go.RowKit

def ofTr (t : Int) (L : List Spn) : List Spn := L.filter (fun s => s.tr == t)
theorem ofTr_snoc_yes {t : Int} {x : Spn} (h : x.tr = t) (L : List Spn) : ofTr t (L ++ [x]) = ofTr t L ++ [x] := by unfold ofTr; simp [h]
theorem ofTr_snoc_no {t : Int} {x : Spn} (h : ¬ x.tr = t) (L : List Spn) : ofTr t (L ++ [x]) = ofTr t L := by unfold ofTr; simp [h]
theorem ofTr_len (t : Int) (L : List Spn) : (ofTr t L).length ≤ L.length := List.length_filter_le _ _
def getOk (t : Int) : Bool := decide (1 ≤ t) && decide (t ≤ 2147483647)
theorem sz27 : (Try.prog.info? 27).map (·.size) = some 1 := by kernel_rfl
set_option maxRecDepth 100000 in
theorem rget_bad {w : World} {mp : Nat} (t now : Int) (hb : getOk t = false) : Calls Try.prog 17 #[.pointer (some ⟨mp, 0, none⟩), .int .i64 t, .int .i64 now] w fun e w' => e = .returned (.tuple #[.agg #[.int .i64 0, .slice none 0 0], .int .i64 2]) ∧ Kept (fun _ => False) w w' := by
 by_cases h1 : t < 1
 ·go_enter Try.func17, Try.ntmps17
  go_wp2
  refine bodyPost_ret (v := _) (by simp [results, Try.results17, go_sem]; try rfl) rfl ?_
  exact ⟨rfl, (Kept.refl (fun _ => False) w).alloc _⟩
 ·have h2 : 2147483647 < t := by unfold getOk at hb; simp at hb; omega
  go_enter Try.func17, Try.ntmps17
  go_wp2
  refine bodyPost_ret (v := _) (by simp [results, Try.results17, go_sem]; try rfl) rfl ?_
  exact ⟨rfl, (Kept.refl (fun _ => False) w).alloc _⟩
set_option maxHeartbeats 16000000 in
set_option maxRecDepth 100000 in
theorem rget_all {w : World} {mp : Nat} {L : List Spn} (t now : Int) (hb : getOk t = true) (h1 : 0 ≤ now) (h2 : now ≤ 4294967296) (hr : RefAt w mp L) (hm : ∀ m ∈ L, chkB m = true) (hL : L.length ≤ 1000000) :
  Calls Try.prog 17 #[.pointer (some ⟨mp, 0, none⟩), .int .i64 t, .int .i64 now] w fun e w' => ∃ v', e = .returned (.tuple #[.agg #[.int .i64 t, v'], .int .i64 0]) ∧ w'.ownsRow w.heap.size 37 8 v' (ofTr t (rowR now L)).length (cellsS (ofTr t (rowR now L))) ∧ Kept (fun _ => False) w w' := by
 obtain ⟨i0, hi0, hz0, hz1, hz2⟩ := info_parts inf37
 have t1 : ¬ t < 1 := by unfold getOk at hb; simp at hb; omega
 have t2 : ¬ 2147483647 < t := by unfold getOk at hb; simp at hb; omega
 have HR := Lib.hid hr; have HM := Lib.hid hm
 have RL := Lib.hid (show (rowR now L).length ≤ 1000000 by have a1 := foldR_len (liveF now L); have a2 := live_len now L; unfold rowR; omega)
 obtain ⟨RR, hRR⟩ : ∃ R, rowR now L = R := ⟨_, rfl⟩
 have RE := Lib.hid (show foldR (liveF now L) = RR from hRR)
 rw [hRR] at RL ⊢
 clear hr hm hb hRR
 go_enter Try.func17, Try.ntmps17
 go_wp2_with fail
 obtain ⟨rb, hrb⟩ : ∃ q, w.heap.size = q := ⟨_, rfl⟩
 obtain ⟨ob, hob⟩ : ∃ q, rb + 1 = q := ⟨_, rfl⟩
 obtain ⟨W1, hW1⟩ : ∃ W, (w.alloc (.cells #[.int .i64 0, .slice none 0 0] 46)).alloc (.cells #[.int .i64 t, .slice none 0 0] 46) = W := ⟨_, rfl⟩
 have K1 := Lib.hid (show Kept (fun _ => False) w W1 by rw [← hW1]; exact ((Kept.refl _ w).alloc _).alloc _)
 have r0 : W1.cell? ⟨rb, 0, none⟩ = some (.int .i64 0) := by rw [← hW1, ← hrb]; simp
 have r1 : W1.cell? ⟨rb, 1, none⟩ = some (.slice none 0 0) := by rw [← hW1, ← hrb]; simp
 have rf : ∀ j, W1.frozen? ⟨rb, j, none⟩ = false := fun j => by rw [← hW1, ← hrb]; simp
 have b0 : W1.cell? ⟨ob, 0, none⟩ = some (.int .i64 t) := by rw [← hW1, ← hob, ← hrb]; simp
 have b1 : W1.cell? ⟨ob, 1, none⟩ = some (.slice none 0 0) := by rw [← hW1, ← hob, ← hrb]; simp
 have bf : ∀ j, W1.frozen? ⟨ob, j, none⟩ = false := fun j => by rw [← hW1, ← hob, ← hrb]; simp
 have S1 := Lib.hid (show W1.heap.size = ob + 1 by rw [← hW1, ← hob, ← hrb]; simp)
 have RBO := Lib.hid (show rb < ob by omega)
 have WR := Lib.hid hrb
 rw [hW1, hrb, hob]
 clear hW1 hrb hob
 obtain ⟨⟨vL, hc, ho⟩, _⟩ := HR.out.keptF K1.out
 refine (r_all now h1 h2 hc ho HM.out hL).mono ?_
 rintro e w2 ⟨v2, rfl, o2, k2⟩
 rw [RE.out] at o2
 obtain ⟨n2, hn2⟩ : ∃ n, RR.length = n := ⟨_, rfl⟩
 rw [hn2] at o2 RL
 have N2 := Lib.hid hn2
 obtain ⟨a2, c2, rfl⟩ := own_slice o2
 have O2 := Lib.hid o2
 have K2 := Lib.hid (keptFF K1.out k2)
 replace r0 := k2.cell r0 (fun f => f)
 replace r1 := k2.cell r1 (fun f => f)
 have RF := Lib.hid (show ∀ j, w2.frozen? ⟨rb, j, none⟩ = false from fun j => k2.frozen (rf j) (by have := S1.out; have := RBO.out; simp only; omega) (fun f => f))
 replace b0 := k2.cell b0 (fun f => f)
 replace b1 := k2.cell b1 (fun f => f)
 have BF := Lib.hid (show ∀ j, w2.frozen? ⟨ob, j, none⟩ = false from fun j => k2.frozen (bf j) (by have := S1.out; simp only; omega) (fun f => f))
 have R0 := Lib.hid r0; have R1 := Lib.hid r1; have B0 := Lib.hid b0; have B1 := Lib.hid b1
 have OBL := Lib.hid (show ob < w2.heap.size from World.block_lt_of_cell? _ _ b0)
 have R2L := RL.out
 clear hc ho o2 k2 rf bf r0 r1 b0 b1 hn2
 go_wp2
 go_loopg [10] n2 (fun gh s wr => ∃ (i : Nat) (v : Value), i + gh = n2 ∧ s = .int .i64 i ∧ wr.cell? ⟨ob, 0, none⟩ = some (.int .i64 t) ∧ wr.cell? ⟨ob, 1, none⟩ = some v ∧ (∀ j, wr.frozen? ⟨ob, j, none⟩ = false) ∧ wr.ownsRow w2.heap.size 37 8 v (ofTr t (RR.take i)).length (cellsS (ofTr t (RR.take i))) ∧ Kept (fun k => k = ob) w2 wr)
 case atStart => exact ⟨0, _, by omega, rfl, B0.out, B1.out, BF.out, World.ownsRow_nil _ _ _ _, Kept.refl _ _⟩
 case round =>
  obtain ⟨i, v, ji, rfl, cb0, cb1, fz, oa, kk⟩ := hrel
  have JI := Lib.hid ji; have CB0 := Lib.hid cb0; have FZ := Lib.hid fz; have KK := Lib.hid kk
  obtain ⟨ao, co, rfl⟩ := own_slice oa
  have i0' : (0 : Int) ≤ (i : Int) := by omega
  by_cases hin : i < n2
  ·have i1 : (i : Int) < (n2 : Int) := by omega
   have i2 : (i : Int) ≤ 1000000 := by omega
   obtain ⟨x, hx⟩ : ∃ x, RR[i]? = some x := ⟨_, List.getElem?_eq_getElem (by rw [N2.out]; exact hin)⟩
   obtain ⟨g, rfl, hcs⟩ : ∃ g, a2 = some ⟨g, 0, none⟩ ∧ ∀ j u, (cellsS RR)[j]? = some u → w2.cell? ⟨g, j, none⟩ = some u := by
    rcases row_form O2.out with ⟨h1, h2⟩ | ⟨g, c, h1, _, _, _, hc2⟩
    ·omega
    ·cases h1; exact ⟨g, rfl, hc2⟩
   have gob : ¬ g = ob := fun e => by
    have h1 := own_from O2.out (q := g) rfl
    have h2 := S1.out
    omega
   have GBL := Lib.hid (show g < w2.heap.size from World.block_lt_of_cell? _ _ (hcs (i * 8) (.int .i64 x.tr) (cellsS_at RR i x hx 0 (by omega))))
   have rx := ReadsS.at (o := 0) (fun j u hu => by rw [Nat.zero_add]; exact kk.cell (hcs j u hu) gob) hx
   rw [Nat.zero_add] at rx
   obtain ⟨n, hn⟩ : ∃ n, (ofTr t (RR.take i)).length = n := ⟨_, rfl⟩
   have LN := Lib.hid hn
   have hnl : n ≤ 1000000 := by
    rw [← hn]
    have e1 := ofTr_len t (RR.take i)
    rw [List.length_take] at e1
    omega
   rw [hn] at oa cb1 
   have OA := Lib.hid oa
   have CB1W := Lib.hid cb1
   have HX := Lib.hid hx
   have TS := Lib.hid (rtake_snoc hx)
   have q0 := rx.1
   clear hcs hx hn ji cb0 fz oa kk
   by_cases ht : x.tr = t
   ·have HT := Lib.hid ht
    have d1 : (x.tr == t) = true := by simp [ht]
    clear ht
    go_wp2
    refine wp_region_last 9 (fun w' => w'.cell? ⟨ob, 1, none⟩ = some (.slice ao n co) ∧ (w'.cell? ⟨g, i * 8, none⟩ = some (.int .i64 x.tr) ∧ w'.cell? ⟨g, i * 8 + 1, none⟩ = some (.int .i64 x.id) ∧ w'.cell? ⟨g, i * 8 + 2, none⟩ = some (.int .i64 x.pa) ∧ w'.cell? ⟨g, i * 8 + 3, none⟩ = some (.string x.se) ∧ w'.cell? ⟨g, i * 8 + 4, none⟩ = some (.string x.ho) ∧ w'.cell? ⟨g, i * 8 + 5, none⟩ = some (.int .i64 x.st) ∧ w'.cell? ⟨g, i * 8 + 6, none⟩ = some (.int .i64 x.du) ∧ w'.cell? ⟨g, i * 8 + 7, none⟩ = some (.string x.no))) (by kernel_rfl) ?_
    have hHeld := And.intro cb1 rx
    simp only [List.size_toArray, List.length_cons, List.length_nil, Nat.zero_add, Nat.reduceAdd]
    refine tF (v := ?_) 0 opAt0 ?_ hHeld ?_
    case refine_2 => (intro w hSw; (try dsimp only at hSw);  go_simp; all_goals (with_reducible rfl))
    (try simp only [Act.put]); try simp only [z2, List.set]
    refine tF (v := ?_) 1 opAt1 ?_ hHeld ?_
    case refine_2 => (intro w hSw; (try dsimp only at hSw);  go_simp; all_goals (with_reducible rfl))
    (try simp only [Act.put]); try simp only [z2, List.set]
    refine tF (v := ?_) 2 opAt2 ?_ hHeld ?_
    case refine_2 => (intro w hSw; (try dsimp only at hSw);  go_simp; all_goals (with_reducible rfl))
    (try simp only [Act.put]); try simp only [z2, List.set]
    refine tF (v := ?_) 3 opAt3 ?_ hHeld ?_
    case refine_2 => (intro w hSw; (try dsimp only at hSw);  go_simp; all_goals (with_reducible rfl))
    (try simp only [Act.put]); try simp only [z2, List.set]
    refine tF (v := ?_) 4 opAt4 ?_ hHeld ?_
    case refine_2 => (intro w hSw; (try dsimp only at hSw);  go_simp; all_goals (with_reducible rfl))
    (try simp only [Act.put]); try simp only [z2, List.set]
    refine tF (v := ?_) 5 opAt5 ?_ hHeld ?_
    case refine_2 => (intro w hSw; (try dsimp only at hSw); obtain ⟨x0, x1, x2, x3, x4, x5, x6, x7⟩ := hSw.2; have xb := hSw.1; clear hSw; go_simp; all_goals (with_reducible rfl))
    (try simp only [Act.put]); try simp only [z2, List.set]
    refine next1 6 (by kernel_rfl) opAt6 fun K' hK => ?_
    go_simp
    obtain ⟨w6, hw6⟩ : ∃ W, (wr.alloc (.cells #[.int .i64 x.tr, .int .i64 x.id, .int .i64 x.pa, .string x.se, .string x.ho, .int .i64 x.st, .int .i64 x.du, .string x.no] 37)).drew = W := ⟨_, rfl⟩
    have k6 : Kept (fun _ => False) wr w6 := by rw [← hw6]; exact ((Kept.refl (fun _ => False) wr).alloc _).drew
    have NW := Lib.hid (show ∀ j u, x.cells[j]? = some u → w6.cell? ((⟨wr.heap.size, 0, none⟩ : Addr).add j) = some u from by rw [← hw6]; exact World.news_of_block (heap_alloc_new wr _))
    rw [hw6]
    clear hw6
    have K6 := Lib.hid k6
    clear k6
    have hHeld := And.intro (K6.out.cell hHeld.1 (fun f => f)) (show (w6.cell? ⟨g, i * 8, none⟩ = some (.int .i64 x.tr) ∧ w6.cell? ⟨g, i * 8 + 1, none⟩ = some (.int .i64 x.id) ∧ w6.cell? ⟨g, i * 8 + 2, none⟩ = some (.int .i64 x.pa) ∧ w6.cell? ⟨g, i * 8 + 3, none⟩ = some (.string x.se) ∧ w6.cell? ⟨g, i * 8 + 4, none⟩ = some (.string x.ho) ∧ w6.cell? ⟨g, i * 8 + 5, none⟩ = some (.int .i64 x.st) ∧ w6.cell? ⟨g, i * 8 + 6, none⟩ = some (.int .i64 x.du) ∧ w6.cell? ⟨g, i * 8 + 7, none⟩ = some (.string x.no)) from ⟨K6.out.cell hHeld.2.1 (fun f => f), K6.out.cell hHeld.2.2.1 (fun f => f), K6.out.cell hHeld.2.2.2.1 (fun f => f), K6.out.cell hHeld.2.2.2.2.1 (fun f => f), K6.out.cell hHeld.2.2.2.2.2.1 (fun f => f), K6.out.cell hHeld.2.2.2.2.2.2.1 (fun f => f), K6.out.cell hHeld.2.2.2.2.2.2.2.1 (fun f => f), K6.out.cell hHeld.2.2.2.2.2.2.2.2 (fun f => f)⟩)
    refine hK _ _ ⟨fun _ => hHeld, ?_⟩
    clear hK K'
    (try simp only [Act.put]); try simp only [z2, List.set]
    refine next1 7 (by kernel_rfl) opAt7 fun K' hK => ?_
    refine step_app (by rfl) _ _ 27 (by rfl) w2.heap.size 37 i0 _ 8 88 Try.underlying27 hi0 hz0 hz1 hz2 (by rfl) (by decide) _ n _ (by rfl) (own_kept OA.out K6.out (fun _ _ f => f)) ⟨wr.heap.size, 0, none⟩ 1 1 x.cells (by rfl) (by rfl) NW.out (fun u hu => by simp [Spn.cells] at hu; rcases hu with rfl | rfl | rfl | rfl | rfl | rfl | rfl | rfl <;> rfl) (by unfold maxLen; omega) (by omega) (by have h1 := K6.out.size; have h2 := KK.out.size; omega) ?_
    intro ao7 cap7 w7 own7 gr7 at7
    have K7 := Lib.hid (grown_kept gr7)
    have nob : ¬ some ob = (Value.slice ao n co).ownBlock := fun e => by have := own_from OA.out e.symm; have := OBL.out; omega
    have ngb : ¬ some g = (Value.slice ao n co).ownBlock := fun e => by have := own_from OA.out e.symm; have := GBL.out; omega
    have O7 := Lib.hid own7
    clear own7 gr7 at7
    have hHeld := And.intro (K7.out.cell hHeld.1 (fun e => nob e.symm)) (show (w7.cell? ⟨g, i * 8, none⟩ = some (.int .i64 x.tr) ∧ w7.cell? ⟨g, i * 8 + 1, none⟩ = some (.int .i64 x.id) ∧ w7.cell? ⟨g, i * 8 + 2, none⟩ = some (.int .i64 x.pa) ∧ w7.cell? ⟨g, i * 8 + 3, none⟩ = some (.string x.se) ∧ w7.cell? ⟨g, i * 8 + 4, none⟩ = some (.string x.ho) ∧ w7.cell? ⟨g, i * 8 + 5, none⟩ = some (.int .i64 x.st) ∧ w7.cell? ⟨g, i * 8 + 6, none⟩ = some (.int .i64 x.du) ∧ w7.cell? ⟨g, i * 8 + 7, none⟩ = some (.string x.no)) from ⟨K7.out.cell hHeld.2.1 (fun e => ngb e.symm), K7.out.cell hHeld.2.2.1 (fun e => ngb e.symm), K7.out.cell hHeld.2.2.2.1 (fun e => ngb e.symm), K7.out.cell hHeld.2.2.2.2.1 (fun e => ngb e.symm), K7.out.cell hHeld.2.2.2.2.2.1 (fun e => ngb e.symm), K7.out.cell hHeld.2.2.2.2.2.2.1 (fun e => ngb e.symm), K7.out.cell hHeld.2.2.2.2.2.2.2.1 (fun e => ngb e.symm), K7.out.cell hHeld.2.2.2.2.2.2.2.2 (fun e => ngb e.symm)⟩)
    refine hK _ _ ⟨fun _ => hHeld, ?_⟩
    clear hK K'
    (try simp only [Act.put]); try simp only [z2, List.set]
    refine tF (v := ?_) 8 opAt8 ?_ hHeld ?_
    case refine_2 => (intro w hSw; (try dsimp only at hSw);  go_simp; all_goals (with_reducible rfl))
    (try simp only [Act.put]); try simp only [z2, List.set]
    refine next1 9 (by kernel_rfl) opAt9 fun K' hK => ?_
    have fz7 := K7.out.frozen (K6.out.frozen (FZ.out 1) (World.block_lt_of_cell? _ _ cb1) (fun f => f)) (World.block_lt_of_cell? _ _ (K6.out.cell cb1 (fun f => f))) (fun e => nob e.symm)
    refine step_store1 (by rfl) 27 _ _ (by rfl) ob 1 (.slice ao7 (n + 1) cap7) (by rfl) (by rfl) (by rw [hHeld.1]; rfl) fz7 sz27 rfl rfl ?_
    intro W2 hW2
    have KP := Lib.hid (show Kept (fun k => k = ob) w7 W2 from by rw [hW2]; exact (Kept.refl (fun k => k = ob) w7).setCell (fun _ => rfl) _)
    have CB1 := Lib.hid (show W2.cell? ⟨ob, 1, none⟩ = some (.slice ao7 (n + 1) cap7) from by rw [hW2]; exact World.cell?_setCell_same _ _ _ hHeld.1)
    have cb0' := K7.out.cell (K6.out.cell CB0.out (fun f => f)) (fun e => nob e.symm)
    have CB2 := Lib.hid (show W2.cell? ⟨ob, 0, none⟩ = some (.int .i64 t) from by rw [hW2, World.cell?_setCell_other _ _ _ _ (by simp)]; exact cb0')
    have FZ2 := Lib.hid (show ∀ j, W2.frozen? ⟨ob, j, none⟩ = false from fun j => by rw [hW2, World.frozen?_setCell]; exact K7.out.frozen (K6.out.frozen (FZ.out j) (show ob < wr.heap.size from World.block_lt_of_cell? _ _ cb1) (fun f => f)) (show ob < w6.heap.size from World.block_lt_of_cell? _ _ (K6.out.cell cb1 (fun f => f))) (fun e => nob e.symm))
    clear hW2 cb0' fz7
    refine hK _ _ ⟨fun h => absurd rfl h, ?_⟩
    clear hK K'
    (try simp only [Act.put]); try simp only [z2, List.set]
    refine wpAnyF_done (by kernel_rfl) ?_ _
    have K2' := Lib.hid (((KK.out.trans K6.out (fun _ _ h => h) (fun _ _ f => f.elim) : Kept (fun k => k = ob) w2 w6).trans K7.out (fun _ _ h => h) (fun q hq e => by have := own_from OA.out e; omega) : Kept (fun k => k = ob) w2 w7).trans KP.out (fun _ _ h => h) (fun _ _ h => h) : Kept (fun k => k = ob) w2 W2)
    have O8 := Lib.hid (own_kept O7.out KP.out (fun q hq e => by have h1 := own_from O7.out hq; have h2 := OBL.out; omega))
    clear hHeld nob ngb d1 q0 rx
    go_wp2
    go_roundg (n2 - i - 1)
    case measure => have := JI.out; omega
    case rel =>
     have e := TS.out
     have e2 : (ofTr t (RR.take i) ++ [x]).length = n + 1 := by rw [List.length_append, LN.out]; rfl
     have e3 : cellsS (ofTr t (RR.take i) ++ [x]) = cellsS (ofTr t (RR.take i)) ++ x.cells := by rw [cellsS_append]; simp [cellsS]
     exact ⟨i + 1, _, by have := JI.out; omega, by go_num, CB2.out, CB1.out, FZ2.out, by rw [e, ofTr_snoc_yes HT.out, e2, e3]; exact O8.out, K2'.out⟩
   ·have HT := Lib.hid ht
    have d1 : (x.tr == t) = false := by simp [ht]
    clear ht
    go_wp2
    go_roundg (n2 - i - 1)
    case measure => have := JI.out; omega
    case rel =>
     have e := TS.out
     exact ⟨i + 1, _, by have := JI.out; omega, by go_num, CB0.out, CB1W.out, FZ.out, by rw [e, ofTr_snoc_no HT.out, LN.out]; exact OA.out, KK.out⟩
  ·have i1 : ¬ (i : Int) < (n2 : Int) := by omega
   have ei : RR.take i = RR := List.take_of_length_le (by rw [N2.out]; omega)
   rw [ei] at oa cb1
   have rbo : ¬ rb = ob := by have := RBO.out; omega
   have r0 := kk.cell R0.out rbo
   have r1 := kk.cell R1.out rbo
   have f0 := kk.frozen (RF.out 0) (World.block_lt_of_cell? _ _ R0.out) rbo
   have f1 := kk.frozen (RF.out 1) (World.block_lt_of_cell? _ _ R1.out) rbo
   have OA := Lib.hid oa
   have KW := Lib.hid (kept_fresh K2.out kk (fun q e => by have := WR.out; have := RBO.out; omega))
   obtain ⟨m, hm⟩ : ∃ m, (ofTr t RR).length = m := ⟨_, rfl⟩
   rw [hm] at OA cb1 
   have HMM := Lib.hid hm
   clear oa kk ji fz hm ei
   have c0' := CB0.out
   go_wp2
   have KR := Lib.hid ((KW.out.setCell (p := ⟨rb, 0, none⟩) (fun h => absurd h (by have := WR.out; simp only; omega)) (.int .i64 t)).setCell (p := ⟨rb, 1, none⟩) (fun h => absurd h (by have := WR.out; simp only; omega)) (.slice ao m co))
   have s0 := World.cell?_setCell_same wr ⟨rb, 0, none⟩ (.int .i64 t) r0
   have r1' : (wr.setCell ⟨rb, 0, none⟩ (.int .i64 t)).cell? ⟨rb, 1, none⟩ = some (.slice none 0 0) := by rw [World.cell?_setCell_other _ _ _ _ (by simp)]; exact r1
   have s1 := World.cell?_setCell_same (wr.setCell ⟨rb, 0, none⟩ (.int .i64 t)) ⟨rb, 1, none⟩ (.slice ao m co) r1'
   refine bodyPost_ret (v := _) (by simp [results, Try.results17, go_sem, s0, s1]; try rfl) rfl ?_
   refine ⟨_, rfl, ?_, KR.out⟩
   rw [HMM.out]
   exact own_low (own_kept OA.out ((Kept.refl (fun k => k = rb) wr).setCell (fun _ => rfl) _ |>.setCell (fun _ => rfl) _) (fun q hq e => by have h1 := own_from OA.out hq; have h2 := OBL.out; have h3 := RBO.out; omega)) (K2.out.size)
end Go.Proofs.Ytibakmchgppndaa
/- slices.IndexFunc and slices.DeleteFunc at spans, by the trace. -/
namespace Go.Proofs.Ytibakmchgppndaa
open Go.RowKit

set_option maxRecDepth 100000 in
theorem del_call (x : Spn) (t : Int) (bk : Nat) (w : World) (h : w.cell? ⟨bk, 0, none⟩ = some (.int .i64 t)) : Calls Try.prog 39 #[aggS x, .pointer (some ⟨bk, 0, none⟩)] w fun e w' => e = .returned (.bool (!(x.tr == t))) ∧ Kept (fun _ => False) w w' := by
 unfold aggS
 have K := Lib.hid ((Kept.refl (fun _ => False) w).alloc (.cells #[.int .i64 x.tr, .int .i64 x.id, .int .i64 x.pa, .string x.se, .string x.ho, .int .i64 x.st, .int .i64 x.du, .string x.no] 37))
 have h2 := fun o => ((Kept.refl (fun _ => False) w).alloc o).cell h (fun f => f)
 clear h
 go_enter Try.func39, Try.ntmps39
 go_wp2
 go_ret
 exact ⟨rfl, K.out⟩
set_option maxHeartbeats 4000000 in
set_option maxRecDepth 100000 in
theorem index_all {w : World} {v : Value} {L : List Spn} {bk : Nat} {t : Int} (hr : ReadsS w v L) (hk : w.cell? ⟨bk, 0, none⟩ = some (.int .i64 t)) (hl : L.length ≤ 1000000) :
  Calls Try.prog 52 #[v, .func (.func 39) #[] #[.pointer (some ⟨bk, 0, none⟩)]] w fun e w' => ((e = .returned (.int .i64 (-1)) ∧ ∀ x ∈ L, x.tr = t) ∨ (∃ (f : Nat) (x : Spn), e = .returned (.int .i64 f) ∧ L[f]? = some x ∧ ¬ x.tr = t ∧ ∀ j y, j < f → L[j]? = some y → y.tr = t)) ∧ Kept (fun _ => False) w w' := by
 obtain ⟨ao, cap, rfl, hr⟩ := hr
 have HR := Lib.hid hr; have HK := Lib.hid hk
 obtain ⟨n, hn⟩ : ∃ n, L.length = n := ⟨_, rfl⟩
 have LN := Lib.hid hn
 rw [hn] at hl ⊢
 clear hr hk hn
 go_enter Try.func52, Try.ntmps52
 go_wp2
 go_loopg [8] n (fun gh s wr => ∃ i : Nat, i + gh = n ∧ s = .int .i64 i ∧ Kept (fun _ => False) w wr ∧ ∀ j y, j < i → L[j]? = some y → y.tr = t)
 case atStart => exact ⟨0, by omega, rfl, Kept.refl _ _, fun j y hj => absurd hj (Nat.not_lt_zero j)⟩
 case round =>
  obtain ⟨i, ji, rfl, kr, hall⟩ := hrel
  have JI := Lib.hid ji; have KR := Lib.hid kr; have AL := Lib.hid hall
  clear ji kr hall
  by_cases hin : i < n
  ·have i0 : (0 : Int) ≤ (i : Int) := by omega
   have i1 : (i : Int) < (n : Int) := by omega
   have i2 : (i : Int) ≤ 1000000 := by omega
   obtain ⟨x, hx⟩ : ∃ x, L[i]? = some x := ⟨_, List.getElem?_eq_getElem (by rw [LN.out]; exact hin)⟩
   obtain ⟨g, o, rfl, hcs⟩ : ∃ g o, ao = some ⟨g, o, none⟩ ∧ ∀ j u, (cellsS L)[j]? = some u → w.cell? ⟨g, o + j, none⟩ = some u := by
    rcases HR.out with h | h
    ·have := LN.out; subst h; simp at this; omega
    ·exact h
   obtain ⟨q0, q1, q2, q3, q4, q5, q6, q7⟩ := ReadsS.at (fun j u hu => KR.out.cell (hcs j u hu) (fun f => f)) hx
   have D := Lib.hid (del_call x t bk wr (KR.out.cell HK.out (fun f => f)))
   have HX := Lib.hid hx
   obtain ⟨b, hb⟩ : ∃ b, (x.tr == t) = b := ⟨_, rfl⟩
   have HB := Lib.hid hb
   rw [hb] at D
   unfold aggS at D
   clear hcs hx hb
   go_wp2_with fail
   refine D.out.mono ?_
   rintro e w3 ⟨rfl, k3⟩
   have K3 := Lib.hid (keptFF KR.out k3)
   clear k3 q0 q1 q2 q3 q4 q5 q6 q7
   cases b with
   | true =>
    go_wp2
    go_roundg (n - i - 1)
    case measure => have := JI.out; omega
    case rel =>
     refine ⟨i + 1, by have := JI.out; omega, by go_num, K3.out, fun j y hj hy => ?_⟩
     rcases Nat.lt_or_ge j i with h | h
     ·exact AL.out j y h hy
     ·obtain rfl : j = i := by omega
      have := HX.out
      rw [hy] at this
      cases this
      simpa using HB.out
   | false =>
    go_wp2
    go_ret
    exact ⟨.inr ⟨i, x, rfl, HX.out, by simpa using HB.out, AL.out⟩, K3.out⟩
  ·have i1 : ¬ (i : Int) < (n : Int) := by omega
   go_wp2
   go_ret
   refine ⟨.inl ⟨rfl, fun x hx => ?_⟩, KR.out⟩
   obtain ⟨j, hj⟩ := List.mem_iff_getElem?.1 hx
   exact AL.out j x (by have := (List.getElem?_eq_some_iff.1 hj).1; rw [LN.out] at this; omega) hj
theorem ofTr_all {t : Int} {L : List Spn} (h : ∀ x ∈ L, x.tr = t) : ofTr t L = L := by
 unfold ofTr
 rw [List.filter_eq_self]
 intro x hx
 simpa using h x hx
set_option maxHeartbeats 16000000 in
set_option maxRecDepth 100000 in
theorem delete_all {w : World} {base : Nat} {v : Value} {L : List Spn} {bk : Nat} {t : Int} (ho : w.ownsRow base 37 8 v L.length (cellsS L)) (hk : w.cell? ⟨bk, 0, none⟩ = some (.int .i64 t)) (hne : ¬ v.ownBlock = some bk) (hl : L.length ≤ 1000000) :
  Calls Try.prog 38 #[v, .func (.func 39) #[] #[.pointer (some ⟨bk, 0, none⟩)]] w fun e w' => ∃ v', e = .returned v' ∧ ReadsS w' v' (ofTr t L) ∧ Kept (fun k => v.ownBlock = some k) w w' := by
 have I := Lib.hid (index_all (ReadsS.of_row ho) hk hl)
 have HO := Lib.hid ho; have HK := Lib.hid hk; have NE := Lib.hid hne
 rcases row_form ho with ⟨rfl, h0⟩ | ⟨g, cap, rfl, hcap, _, _, _⟩
 ·have hL : L = [] := List.eq_nil_of_length_eq_zero h0
  subst hL
  clear ho hk hne
  go_enter Try.func38, Try.ntmps38
  go_wp2_with fail
  refine I.out.mono ?_
  rintro e w1 ⟨⟨rfl, _⟩ | ⟨f, x, _, hx, _⟩, k1⟩
  ·have K1 := Lib.hid k1
   clear k1
   go_wp2
   go_ret
   exact ⟨_, rfl, ⟨none, 0, rfl, .inl rfl⟩, K1.out.mono (fun _ _ f => f.elim)⟩
  ·simp at hx
 ·obtain ⟨n, hn⟩ : ∃ n, L.length = n := ⟨_, rfl⟩
  have LN := Lib.hid hn
  rw [hn] at HO I hl hcap ⊢
  have hgb : ¬ bk = g := fun e => hne (by rw [e]; rfl)
  clear ho hk hne hn
  go_enter Try.func38, Try.ntmps38
  go_wp2_with fail
  refine I.out.mono ?_
  rintro e w1 ⟨⟨rfl, hall⟩ | ⟨f, x0, rfl, hx0, hx0t, hf⟩, k1⟩
  ·have K1 := Lib.hid k1
   have OT := Lib.hid (ofTr_all hall)
   clear k1 hall
   go_wp2
   go_ret
   refine ⟨_, rfl, ?_, K1.out.mono (fun _ _ f => f.elim)⟩
   rw [OT.out]
   have h := (ReadsS.of_row (L := L) (by rw [LN.out]; exact HO.out)).keptF K1.out
   exact h
  ·have hfn : f < n := by rw [← LN.out]; exact (List.getElem?_eq_some_iff.1 hx0).1
   have K1 := Lib.hid k1
   have OT := Lib.hid (show L.take f = ofTr t (L.take (f + 1)) by
    rw [rtake_snoc hx0, ofTr_snoc_no hx0t, ofTr_all]
    intro y hy
    obtain ⟨j, hj⟩ := List.mem_iff_getElem?.1 hy
    have hjf : j < f := by have := (List.getElem?_eq_some_iff.1 hj).1; rw [List.length_take] at this; omega
    rw [List.getElem?_take_of_lt hjf] at hj
    exact hf j y hjf hj)
   have O1 := Lib.hid (own_kept HO.out k1 (fun _ _ f => f))
   have d0 : ((f : Int) == -1) = false := by simp
   have f0 : (0 : Int) ≤ (f : Int) := by omega
   have f1 : (f : Int) ≤ 1000000 := by omega
   clear k1 hx0 hx0t hf
   go_wp2
   go_loopg [5, 6, 7] (n - (f + 1)) (fun gh s u _ wr => ∃ (k j : Nat) (L1 : List Spn), j + gh = n ∧ k < j ∧ s = .int .i64 k ∧ u = .int .i64 j ∧ L1.length = n ∧ wr.ownsRow base 37 8 (.slice (some ⟨g, 0, none⟩) n cap) n (cellsS L1) ∧ (∀ m, j ≤ m → L1[m]? = L[m]?) ∧ L1.take k = ofTr t (L.take j) ∧ Kept (fun q => q = g) w wr)
   case atStart =>
    exact ⟨f, f + 1, L, by omega, Nat.lt_succ_self f, rfl, by go_num, LN.out, O1.out, fun _ _ => rfl, OT.out, K1.out.mono (fun _ _ f => f.elim)⟩
   case round =>
    obtain ⟨k, j, L1, hg, hkj, rfl, rfl, hl1, ho1, hhi, htk, k2⟩ := hrel
    have HG := Lib.hid hg; have HO1 := Lib.hid ho1; have HI := Lib.hid hhi; have TK := Lib.hid htk; have K2 := Lib.hid k2; have HL1 := Lib.hid hl1
    have hk1 := k2.cell HK.out hgb
    have hjn : j ≤ n := by omega
    clear hg ho1 hhi htk k2 hl1
    have j0 : (0 : Int) ≤ (j : Int) := by omega
    have k0 : (0 : Int) ≤ (k : Int) := by omega
    by_cases hjl : j < n
    ·have j1 : (j : Int) < (n : Int) := by omega
     have j2 : (j : Int) ≤ 1000000 := by omega
     have k3' : (k : Int) < (n : Int) := by omega
     have k4 : (k : Int) ≤ 1000000 := by omega
     obtain ⟨x, hx⟩ : ∃ x, L[j]? = some x := ⟨_, List.getElem?_eq_getElem (by rw [LN.out]; exact hjl)⟩
     have hx1 : L1[j]? = some x := by rw [HI.out j (Nat.le_refl _)]; exact hx
     have HX := Lib.hid hx
     have TS := Lib.hid (rtake_snoc hx)
     obtain ⟨q0, q1, q2, q3, q4, q5, q6, q7⟩ := ReadsS.at (o := 0) (fun m u hu => by rw [Nat.zero_add]; have h := HO1.out.cells (g := g) rfl m u hu; rw [add_mid, Nat.zero_add] at h; exact h) hx1
     rw [Nat.zero_add] at q0 q1 q2 q3 q4 q5 q6 q7
     have D := Lib.hid (fun W (K : Kept (fun _ => False) wr W) => del_call x t bk W (K.cell hk1 (fun f => f)))
     obtain ⟨b, hb⟩ : ∃ b, (x.tr == t) = b := ⟨_, rfl⟩
     have HB := Lib.hid hb
     rw [hb] at D
     unfold aggS at D
     clear hx hb hx1 hk1
     go_wp2_with fail
     refine (D.out _ ((Kept.refl _ wr).alloc _)).mono ?_
     rintro e w3 ⟨rfl, k3⟩
     have c3 : SpanAt w3 wr.heap.size x := (SpanAt.new (w := wr) (m := x)).keptF k3
     have K3 := Lib.hid (keptFF ((Kept.refl (fun _ => False) wr).alloc _) k3)
     clear k3 q0 q1 q2 q3 q4 q5 q6 q7
     cases b with
     | false =>
      clear c3
      go_wp2
      go_roundg (n - j - 1)
      case measure => have := HG.out; omega
      case rel =>
       have hnt : ¬ x.tr = t := by simpa using HB.out
       exact ⟨k, j + 1, L1, by have := HG.out; omega, by omega, by go_num, by go_num, HL1.out, own_kept HO1.out K3.out (fun _ _ f => f), fun m hm => HI.out m (by omega), by rw [TS.out, ofTr_snoc_no hnt]; exact TK.out, K2.out.trans K3.out (fun _ _ h => h) (fun _ _ f => f.elim)⟩
     | true =>
      have hkl : k < L1.length := by rw [HL1.out]; omega
      have HO6 := Lib.hid (own_kept HO1.out K3.out (fun _ _ f => f))
      have FO := Lib.hid (own_set HO6.out x hkl)
      have KF6 := Lib.hid (Kept.setCells (S := fun q => q = g) (fun _ => rfl) x.cells (k * 8) (K2.out.trans K3.out (fun _ _ h => h) (fun _ _ f => f.elim) : Kept (fun q => q = g) w w3))
      have rx2 : w3.rangeAt wr.heap.size 0 x.cells := fun m u hu => by rw [Nat.zero_add]; exact c3 m u hu
      have q0 := c3 0 _ rfl
      have q1 := c3 1 _ rfl
      have q2 := c3 2 _ rfl
      have q3 := c3 3 _ rfl
      have q4 := c3 4 _ rfl
      have q5 := c3 5 _ rfl
      have q6 := c3 6 _ rfl
      have q7 := c3 7 _ rfl
      clear c3
      go_wp2_with (refine wpList_store_letter (by rfl) 37 _ _ (by rfl) g (k * 8) x.cells.toArray (by rfl) (by rfl) (own_there HO6.out hkl) info24 (cells_all x) ?_; intro W3 hW3; have FOc := Lib.hid (show W3.ownsRow base 37 8 (.slice (some ⟨g, 0, none⟩) n cap) n (cellsS (L1.set k x)) by rw [hW3]; exact FO.out); have KFc := Lib.hid (show Kept (fun q => q = g) w W3 by rw [hW3]; exact KF6.out); clear hW3)
      go_roundg (n - j - 1)
      case measure => have := HG.out; omega
      case rel =>
       have ht : x.tr = t := by simpa using HB.out
       exact ⟨k + 1, j + 1, L1.set k x, by have := HG.out; omega, by omega, by go_num, by go_num, by rw [List.length_set]; exact HL1.out, FOc.out, fun m hm => by rw [List.getElem?_set_ne (by omega)]; exact HI.out m (by omega), by rw [TS.out, ofTr_snoc_yes ht, take_set_snoc _ hkl, TK.out], KFc.out⟩
    ·have j1 : ¬ (j : Int) < (n : Int) := by omega
     obtain ⟨vs, hcl0⟩ := clear_spans wr k HO1.out HL1.out (by omega)
     obtain ⟨W3, hW3⟩ : ∃ W3, wr.setCells g (k * 8) vs = W3 := ⟨_, rfl⟩
     have hcl : ∀ ty, (Builtin.clear_ #[27] ty #[.slice (some ⟨g, k * 8, none⟩) (n - k) (cap - k)]).run Try.prog wr = .ok (.tuple #[]) W3 := fun ty => by rw [← hW3]; exact hcl0 ty _
     have ej : L.take j = L := List.take_of_length_le (by rw [LN.out]; omega)
     have HF := Lib.hid (show ReadsS W3 (.slice (some ⟨g, 0, none⟩) (ofTr t L).length cap) (ofTr t L) ∧ (ofTr t L).length = k from by
      have hend : ofTr t L = L1.take k := by rw [TK.out, ej]
      rw [hend, ← hW3]
      refine ⟨own_reads (own_setL vs (k * 8) HO1.out) (fun m hm => ?_) cap, by rw [List.length_take, HL1.out]; omega⟩
      rw [setL_low _ _ _ _ (by rw [List.length_take] at hm; omega)]
      exact cells_take hm)
     have KF := Lib.hid (show Kept (fun q => q = g) w W3 by rw [← hW3]; exact Kept.setCells (S := fun q => q = g) (fun _ => rfl) vs (k * 8) K2.out)
     have f8 : (k : Int) < (n : Int) := by omega
     have f9 : (k : Int) ≤ (n : Int) := by omega
     have f10 : (k : Int) ≤ (cap : Int) := by omega
     have f11 : k < cap := by omega
     have f12 : (k : Int) < (cap : Int) := by omega
     clear hcl0 hW3 ej
     go_wp2
     go_ret
     have h := HF.out.1
     rw [HF.out.2] at h
     exact ⟨_, rfl, h, KF.out.mono (fun q _ e => by rw [e]; rfl)⟩
end Go.Proofs.Ytibakmchgppndaa
/- slices.SortFunc and (*Model).Spans once more: the row that they leave is one's own. -/
namespace Go.Proofs.Ytibakmchgppndaa
open Go.RowKit Go.Shelf Go.Lib Go.Sort Go.MapKept Go.Instr Go.ChangeMaps

theorem sort_row {w : World} {base : Nat} {v : Value} {d : List Spn} (h : w.ownsRow base 37 8 v d.length (cellsS d)) (hl : d.length < 4611686018427387904) :
  Calls Try.prog 30 #[v, .func (.func 31) #[] #[]] w fun e w' => e = .returned (.tuple #[]) ∧ Kept (fun k => v.ownBlock = some k) w w' ∧ ∃ d' : List Spn, d'.Perm d ∧ SortedS d' ∧ w'.ownsRow base 37 8 v d'.length (cellsS d') := by
 have hcells := h
 obtain ⟨hlen, h2⟩ := h
 cases d with
 | nil =>
  have hv : ∃ p c, v = .slice p 0 c := by
   rcases h2 with ⟨rfl, _⟩ | ⟨g, cap, cur, rfl, _⟩
   ·exact ⟨none, 0, rfl⟩
   ·exact ⟨_, cap, rfl⟩
  obtain ⟨p, c, rfl⟩ := hv
  have hc := AnyF.slices_SortFunc_none (P := Try.prog) Try.sortSp p c (.func (.func 31) #[] #[]) w
  change Calls Try.prog 30 _ _ _ at hc
  exact hc.mono fun e w' ⟨he, hw⟩ => by
   subst hw
   exact ⟨he, Kept.refl _ _, [], List.Perm.refl _, List.Pairwise.nil, hcells⟩
 | cons m t =>
  rcases h2 with ⟨_, h0⟩ | ⟨g, cap, cur, rfl, hb, hg, hcap, hmax, hcur, htake⟩
  ·simp at h0
  ·have hcell := fun j u hu => hcells.cells (g := g) rfl j u hu
   have hblk : g < w.heap.size := (Array.getElem?_eq_some_iff.1 hg).1
   have hH : HoldsK Spn.cells 8 w g 0 (m :: t).toArray := by
    intro j hj
    have hj' : j < (m :: t).length * 8 := by simpa [size_flatK] using hj
    refine ⟨?_, ?_⟩
    ·have := hcell j _ (flat_at (m :: t) j hj')
     rw [add_mid] at this
     exact this
    ·unfold World.frozen?
     simp [hg]
   have hs8 : (m :: t).toArray.size = (m :: t).length := by simp
   have hc := AnyQ.slices_SortFunc (P := Try.prog) Try.sortSp 8 agg37 size37 Spn.cells (fun _ => rfl) (fun x u hu => by simp [Spn.cells] at hu; rcases hu with rfl | rfl | rfl | rfl | rfl | rfl | rfl | rfl <;> rfl) cmpS swoS 31 #[] g 0 cap (m :: t).toArray w (enters_of Try.func31 (by kernel_rfl) rfl) (fun _ _ _ _ x y => closure_all x y _) hH hblk (by rw [hs8]; exact hl)
   change Calls Try.prog 30 _ _ _ at hc
   rw [hs8] at hc
   exact hc.mono fun e w' ⟨he, d', n, os, hp, hsd, hw⟩ => by
    have hsz : d'.size = (m :: t).toArray.size := hp.1
    have hlt : (sortWorldK Spn.cells 8 w g 0 n d' os).heap.size ≥ w.heap.size := by
     unfold sortWorldK; rw [size_grow]; unfold putRowK; rw [size_putRow]; exact Nat.le_add_right _ _
    have hho := holdsK_sortWorldK Spn.cells 8 w g 0 n (m :: t).toArray d' os hblk hH hsz
    subst hw
    refine ⟨he, ⟨rfl, rfl, rfl, hlt, fun k hk hne => ?_⟩, d'.toList, ?_, ?_, ?_⟩
    ·have hkg : g ≠ k := fun e => hne (by rw [← e]; rfl)
     unfold sortWorldK grow
     simp only
     rw [Array.getElem?_append_left (by unfold putRowK; rw [size_putRow]; exact hk)]
     unfold putRowK putRow mapBlock
     simp only
     rw [Array.getElem?_modify]
     simp only [hkg, if_false]
     rfl
    ·have := perm_of_in (d := (m :: t).toArray) (by rw [hs8]; exact hp)
     simpa using this
    ·exact sorted_of_in (by rw [hsz, hs8]; exact hsd)
    ·have hgw : (sortWorldK Spn.cells 8 w g 0 n d' os).heap[g]? = some (.cells (putCells id 0 (flatK Spn.cells 8 d') cur) 37 (0, 0)) := by
      unfold sortWorldK grow
      simp only
      rw [Array.getElem?_append_left (by unfold putRowK; rw [size_putRow]; exact hblk)]
      unfold putRowK putRow mapBlock
      simp only
      rw [Array.getElem?_modify]
      have e1 : (Sort.ahead w n).heap[g]? = some (.cells cur 37 (0, 0)) := hg
      simp only [if_true, e1, Option.map_some, onCells]
     have hl2 : d'.toList.length = (m :: t).length := by rw [← hs8, ← hsz]; simp
     have hps : (putCells id 0 (flatK Spn.cells 8 d') cur).size = cur.size := by unfold putCells; simp
     refine ⟨by rw [cellsS_length], .inr ⟨g, cap, _, by rw [hl2], hb, hgw, by rw [hl2]; exact hcap, hmax, by rw [hps]; exact hcur, ?_⟩⟩
     apply List.ext_getElem?
     intro j
     by_cases hj : j < d'.toList.length * 8
     ·have h4 := (hho j (by rw [size_flatK]; simpa using hj)).1
      have h3 := flat_at d'.toList j hj
      rw [h3, List.getElem?_take_of_lt hj]
      unfold World.cell? at h4
      rw [hgw] at h4
      simpa using h4
     ·rw [List.getElem?_eq_none (by rw [List.length_take]; omega), List.getElem?_eq_none (by rw [cellsS_length]; omega)]
set_option maxHeartbeats 8000000 in
set_option maxRecDepth 100000 in
theorem spans_row {w : World} {p b : Nat} {M : List Spn} (now : Int) (h1 : 0 ≤ now) (h2 : now ≤ 4294967296) (h : ModelAt w p b M) (hM : M.length ≤ 1000000000) :
  Calls Try.prog 10 #[.pointer (some ⟨p, 0, none⟩), .int .i64 now] w fun e w' => Kept (fun _ => False) w w' ∧ ∃ v R, e = .returned v ∧ w'.ownsRow w.heap.size 37 8 v R.length (cellsS R) ∧ R.Perm (liveF now M) ∧ SortedS R := by
 obtain ⟨i0, hi0, hz0, hz1, hz2⟩ := info_parts inf37
 have N := Lib.hid (none_not p b w h.cell)
 have hmap : w.heap[b]? = some (.map (entM M) M.length) := by
  have := h.map
  have hk : (kvM M).length = M.length := by simp [kvM]
  unfold MapIs at this
  rwa [hk] at this
 have R := run_range_map (P := Try.prog) w 68 74 37 b (entM M) M.length u68 hmap
 have hc := h.cell
 have HM := Lib.hid hmap
 have HL := Lib.hid h.map.lt
 have MAY := Lib.hid h.may
 have HS := Lib.hid hM
 obtain ⟨es, hes⟩ : ∃ es, entM M = es := ⟨_, rfl⟩
 have ES := Lib.hid hes
 rw [hes] at HM
 clear h hmap hM hes
 go_enter Try.func10, Try.ntmps10
 go_wp2_with (go_at_call 28; refine N.out.mono ?_; rintro e w4 ⟨rfl, rfl⟩)
 clear R hc
 go_loopg [5] (leftOf es #[]).size (fun gh s wr => ∃ (seen : Array Nat) (V : List Spn), gh = (leftOf es seen).size ∧ (∃ ao cap, s = .slice ao (liveF now V).length cap) ∧ wr.ownsRow (w.heap.size + 1) 37 8 s (liveF now V).length (cellsS (liveF now V)) ∧ (V ++ leftS seen 0 M).Perm M ∧ wr.heap[w.heap.size]? = some (.mapIter (some b) M.length seen M.length) ∧ Kept (fun _ => False) w wr)
 case atStart =>
  exact ⟨#[], [], rfl, ⟨none, 0, rfl⟩, World.ownsRow_nil _ _ _ _, by rw [left_none]; exact List.Perm.refl _, heap_alloc_new w _, (Kept.refl _ w).alloc _⟩
 case round =>
  obtain ⟨seen, V, hgk, ⟨ao, cap, rfl⟩, ho, hp, hr, kw⟩ := hrel
  have GK := Lib.hid hgk
  have OW := Lib.hid ho
  have PE := Lib.hid hp
  have hb := (kw.block b HL.out (fun f => f)).trans HM.out
  have KW := Lib.hid kw
  have hlen : (liveF now V).length ≤ 1000000000 := by
   have e1 := List.length_filter_le (fun m : Spn => !lateB m.st now) V
   have e2 := hp.length_eq
   rw [List.length_append] at e2
   have := HS.out
   unfold liveF; omega
  clear hgk ho hp
  have hold : ∀ x ∈ es.toList, x.born < M.length := fun x hx => by
   rw [← ES.out] at hx
   obtain ⟨i, m, hm, rfl⟩ := mem_entM hx
   exact (List.getElem?_eq_some_iff.1 hm).1
  rcases run_next_at (P := Try.prog) wr 0 w.heap.size b M.length M.length seen es M.length hr hb hold (Nat.le_refl _) with ⟨hl, n1⟩ | ⟨e, he, w1, hw1, n1⟩
  ·have hnil : leftS seen 0 M = [] := done_left (by rw [ES.out]; exact hl)
   have SO := Lib.hid (sort_row OW.out (by omega))
   have PV := Lib.hid (show (liveF now V).Perm (liveF now M) from by
    have := PE.out
    rw [hnil, List.append_nil] at this
    exact this.filter _)
   clear hr hb hold hl hnil
   go_wp2_with fail
   refine SO.out.mono ?_
   rintro e w4 ⟨rfl, k4, d', pd, sd, rd⟩
   have K4 := Lib.hid (KW.out.trans k4 (fun _ _ f => f) (fun q hq hs => by have := own_from OW.out hs; omega) : Kept (fun _ => False) w w4)
   have F := Lib.hid (And.intro pd (And.intro sd rd))
   clear k4 pd sd rd
   go_wp2
   go_ret
   exact ⟨K4.out, _, d', rfl, own_low F.out.2.2 (Nat.le_succ _), F.out.1.trans PV.out, F.out.2.1⟩
  ·obtain ⟨hes2, hun⟩ := mem_left he
   have HSH := Lib.hid (left_shrinks es seen e he)
   have hes3 := hes2
   rw [← ES.out] at hes3
   obtain ⟨i, m, hm, hem⟩ := mem_entM hes3
   have eb : e.born = i := by rw [hem]
   have ek : e.key = .agg #[.int .i64 m.tr, .int .i64 m.id] := by rw [hem]; rfl
   have ev : e.val = aggS m := by rw [hem]
   rw [eb] at hun HSH n1
   rw [ek, ev] at n1
   have PE2 := Lib.hid (show ((V ++ [m]) ++ leftS (seen.push i) 0 M).Perm M from by
    have := left_perm seen M 0 i m hm (by rw [Nat.zero_add]; exact hun)
    rw [Nat.zero_add] at this
    rw [List.append_assoc]
    exact (List.Perm.append_left V this).trans PE.out)
   have kr : Kept (fun _ => False) wr w1 := by rcases hw1 with rfl | rfl
                                               ·exact Kept.refl _ _
                                               ·exact (Kept.refl _ _).drew
   have hr1 : w1.heap[w.heap.size]? = some (.mapIter (some b) M.length seen M.length) := (kr.block _ (Array.getElem?_eq_some_iff.1 hr).1 (fun f => f)).trans hr
   obtain ⟨W2, hW2⟩ : ∃ W2, setBlock w1 w.heap.size (.mapIter (some b) M.length (seen.push i) M.length) = W2 := ⟨_, rfl⟩
   rw [hW2] at n1
   have k2 : Kept (fun k => k = w.heap.size) w1 W2 := by rw [← hW2]; exact kept_setBlock (S := fun k => k = _) (Kept.refl _ _) (fun _ => rfl) _
   have hr2 : W2.heap[w.heap.size]? = some (.mapIter (some b) M.length (seen.push i) M.length) := by rw [← hW2]; exact set_same _ (Array.getElem?_eq_some_iff.1 hr1).1
   have OW2 := Lib.hid (own_kept (own_kept OW.out kr (fun _ _ f => f)) k2 (fun q hq hs => by have := own_from OW.out hq; omega))
   have KW2 := Lib.hid ((KW.out.trans kr (fun _ _ f => f) (fun _ _ f => f)).trans k2 (fun _ _ f => f) (fun q hq hs => by omega) : Kept (fun _ => False) w W2)
   have hb2 := (KW2.out.block b HL.out (fun f => f)).trans HM.out
   have n2 := run_entry_at (P := Try.prog) W2 w.heap.size b M.length seen es M.length e (by rw [eb]; exact hr2) hb2 hes2 (by rw [← ES.out]; exact born_once M)
   rw [ek, ev] at n2
   unfold aggS at n1 n2
   have R2 := Lib.hid hr2
   have num := (chk_num (MAY.out m (List.mem_of_getElem? hm))).2.2.2.1
   have E := Lib.hid (expired_all m now num.1 num.2 h1 h2)
   obtain ⟨be, hbe⟩ : ∃ c, lateB m.st now = c := ⟨_, rfl⟩
   rw [hbe] at E
   have BE := Lib.hid hbe
   clear hw1 kr hr1 hW2 k2 hr2 hb2 hes2 hes3 hun hm hem eb ek ev hr hb hold num hbe he
   go_wp2_with fail
   refine (E.out _).mono ?_
   rintro e4 w4 ⟨rfl, k4⟩
   have KA := Lib.hid (((Kept.refl (fun _ => False) W2).alloc _).trans k4 (fun _ _ f => f) (fun _ _ f => f) : Kept (fun _ => False) W2 w4)
   have c4 : SpanAt w4 W2.heap.size m := (SpanAt.new (w := W2) (m := m)).keptF k4
   clear k4
   cases be with
   | true =>
    have K5 := Lib.hid (KW2.out.trans KA.out (fun _ _ f => f) (fun _ _ f => f) : Kept (fun _ => False) w w4)
    have R5 := Lib.hid ((KA.out.block _ (Array.getElem?_eq_some_iff.1 R2.out).1 (fun f => f)).trans R2.out)
    have O5 := Lib.hid (own_kept OW2.out KA.out (fun _ _ f => f))
    clear c4
    go_wp2
    go_roundg (leftOf es (seen.push i)).size
    case measure => rw [GK.out]; exact HSH.out
    case rel =>
     have e := live_late (V := V) BE.out
     exact ⟨seen.push i, V ++ [m], rfl, ⟨ao, cap, by rw [e]⟩, by rw [e]; exact O5.out, PE2.out, R5.out, K5.out⟩
   | false =>
    have q0 := c4 0 _ rfl
    have q1 := c4 1 _ rfl
    have q2 := c4 2 _ rfl
    have q3 := c4 3 _ rfl
    have q4 := c4 4 _ rfl
    have q5 := c4 5 _ rfl
    have q6 := c4 6 _ rfl
    have q7 := c4 7 _ rfl
    have O5 := Lib.hid (own_kept OW2.out KA.out (fun _ _ f => f))
    have s5 : w.heap.size + 1 ≤ w4.heap.size := by
     have e1 := (Array.getElem?_eq_some_iff.1 R2.out).1
     have := KA.out.size
     omega
    obtain ⟨n, hn⟩ : ∃ n, (liveF now V).length = n := ⟨_, rfl⟩
    have LN := Lib.hid hn
    rw [hn] at O5 hlen ⊢
    clear c4 hn
    go_wp2_with (at_builtin; refine wpList_append_own _ rfl _ _ 27 rfl (w.heap.size + 1) 37 i0 _ 8 88 Try.underlying27 hi0 hz0 hz1 hz2 rfl (by decide) _ _ _ rfl (own_kept O5.out ((Kept.refl (fun _ => False) w4).alloc _) (fun _ _ f => f)) ⟨w4.heap.size, 0, none⟩ 1 1 m.cells rfl rfl (World.news_of_block (heap_alloc_new w4 _)) ?qa ?qb ?qc ?qd ?_)
    case qa => intro u hu; simp [Spn.cells] at hu; rcases hu with rfl | rfl | rfl | rfl | rfl | rfl | rfl | rfl <;> rfl
    case qb => unfold maxLen; omega
    case qc => omega
    case qd => simp; omega
    intro v' w5 hown hgrow hnil
    have K6 := Lib.hid ((((KW2.out.trans KA.out (fun _ _ f => f) (fun _ _ f => f)).alloc (Obj.cells #[.int .i64 m.tr, .int .i64 m.id, .int .i64 m.pa, .string m.se, .string m.ho, .int .i64 m.st, .int .i64 m.du, .string m.no] 37)) : Kept (fun _ => False) w _).grown hgrow (fun k hk hlt => by have := own_from O5.out hk; omega))
    have R6 := Lib.hid (show w5.heap[w.heap.size]? = some (.mapIter (some b) M.length (seen.push i) M.length) from by
     have hl : w.heap.size < w4.heap.size := by omega
     rw [hgrow.block _ (by simp; omega) (fun hk => by have := own_from O5.out hk.symm; omega), ((Kept.refl (fun _ => False) w4).alloc _).block _ hl (fun f => f), KA.out.block _ (Array.getElem?_eq_some_iff.1 R2.out).1 (fun f => f)]
     exact R2.out)
    have O6 := Lib.hid hown
    obtain ⟨ao2, cap2, rfl⟩ := own_slice hown
    clear hown hgrow hnil q0 q1 q2 q3 q4 q5 q6 q7
    go_wp2
    go_roundg (leftOf es (seen.push i)).size
    case measure => rw [GK.out]; exact HSH.out
    case rel =>
     have e := live_live (V := V) BE.out
     have e2 : (liveF now V ++ [m]).length = n + 1 := by rw [List.length_append, LN.out]; rfl
     have e3 : cellsS (liveF now V ++ [m]) = cellsS (liveF now V) ++ m.cells := by rw [cellsS_append]; simp [cellsS]
     exact ⟨seen.push i, V ++ [m], rfl, ⟨ao2, cap2, by rw [e, e2]⟩, by rw [e, e2, e3]; exact O6.out, PE2.out, R6.out, K6.out⟩
end Go.Proofs.Ytibakmchgppndaa
/- spoorref14.counted. -/
namespace Go.Proofs.Ytibakmchgppndaa
open Go.RowKit

theorem wpAnyH_gen {P : Program} {md : Region.Mode} {ops : Array Oper} {Q : Exit → Act → World → Prop} {S : World → Prop} {fuel : Nat} {listed : Array Bool} {a : Act} {w : World} (R : World → Prop) (h0 : R w) (h : ∀ V, R V → wpAnyH P md ops Q S fuel listed a V) : wpAnyH P md ops Q S fuel listed a w := h w h0
set_option maxHeartbeats 8000000 in
set_option maxRecDepth 100000 in
theorem counted_any (w : World) (v : Value) (L : List Spn) (h : ReadsS w v L) (hl : L.length ≤ 1000) :
  Calls Try.prog 57 #[v] w fun e w' => ∃ v', e = .returned v' ∧ ReadsS w' v' (cntF L) ∧ Kept (fun _ => False) w w' := by
 obtain ⟨ao2, capL, rfl, rdL⟩ := h
 obtain ⟨m, hm⟩ : ∃ m, L.length = m := ⟨_, rfl⟩
 rw [hm] at hl ⊢
 have HM := Lib.hid hm; have RDL := Lib.hid rdL
 clear hm rdL
 obtain ⟨i24, hi24, z24, s24, b24⟩ := info_parts inf24
 obtain ⟨b0, hb0⟩ : ∃ b, w.heap.size = b := ⟨_, rfl⟩
 have HB0 := Lib.hid hb0
 clear hb0
 go_enter Try.func57, Try.ntmps57
 go_wp2
 go_loopg [3, 4] m (fun ghv s3 s4 wr => ∃ (i : Nat) (la : Option Addr) (cap n : Nat), i + ghv = m ∧ s4 = .int .i64 i ∧ s3 = .slice la n cap ∧ (cntN L i).length = n ∧ wr.ownsRow b0 37 8 (.slice la n cap) n (cellsS (cntN L i)) ∧ Kept (fun _ => False) w wr)
 case atStart => exact ⟨0, none, 0, 0, by omega, by go_num, rfl, rfl, own_nil _ _ _ _, Kept.refl _ _⟩
 case round =>
  obtain ⟨i, la, cap, n, hg1, rfl, rfl, hnl, hrow, hk⟩ := hrel
  have G1 := Lib.hid hg1; have HNLr := Lib.hid hnl; have ROWr := Lib.hid hrow; have KKr := Lib.hid hk
  clear hg1 hnl hrow hk
  by_cases him : i < m
  ·have i0 : (i : Int) < (m : Int) := by omega
   have i1 : (0 : Int) ≤ (i : Int) := by omega
   have e1 : IntKind.i64.wrap ((i : Int) + 1) = ((i + 1 : Nat) : Int) := IntWalk.i64_in _ (by omega)
   obtain ⟨R, hR⟩ : ∃ R, cntN L i = R := ⟨_, rfl⟩
   have HNL := Lib.hid (show R.length = n from by rw [← hR]; exact HNLr.out)
   have HR := Lib.hid hR
   have hn1 : n ≤ 1000 := by have h1 := HNLr.out; have h2 := cntN_len L i; omega
   obtain ⟨g2, o2, rfl, hcs⟩ : ∃ g o, ao2 = some ⟨g, o, none⟩ ∧ ∀ j u, (cellsS L)[j]? = some u → w.cell? ⟨g, o + j, none⟩ = some u := by
    rcases RDL.out with h | h
    ·have := HM.out; subst h; simp at this; omega
    ·exact h
   obtain ⟨y, hy⟩ : ∃ y, nth L i = y := ⟨_, rfl⟩
   have gy := nth_get (l := L) (k := i) (by rw [HM.out]; exact him)
   rw [hy] at gy
   have RY := Lib.hid (ReadsS.range hcs gy)
   have CS := Lib.hid (ReadsS.at hcs gy).2.1
   have HY := Lib.hid hy
   have ROW1 := Lib.hid (show _ from hR ▸ ROWr.out)
   clear hR hcs gy hy
   go_wp2
   go_loopg [5] n (fun ghv2 s5 wr2 => ∃ (k : Nat), k + ghv2 = n ∧ s5 = .int .i64 k ∧ (∀ t, t < k → (nth R t).id < y.id) ∧ wr2.ownsRow b0 37 8 (.slice la n cap) n (cellsS R) ∧ Kept (fun _ => False) w wr2)
   case atStart => exact ⟨0, by omega, by go_num, fun t h => by omega, ROW1.out, KKr.out⟩
   case round =>
    obtain ⟨k, hg2, rfl, hlow, hrow2, hk2⟩ := hrel
    have G2 := Lib.hid hg2; have LOW := Lib.hid hlow; have ROW := Lib.hid hrow2; have KK := Lib.hid hk2
    clear hg2 hlow hrow2 hk2
    have B0 := Lib.hid (show b0 ≤ wr.heap.size from by have h1 := HB0.out; have h2 := KK.out.size; omega)
    have cs := KK.out.cell CS.out (fun f => f)
    have ry := fun j u (hu : y.cells[j]? = some u) => KK.out.cell (RY.out j u hu) (fun f => f)
    by_cases hkn : k < n
    ·have k0 : (k : Int) < (n : Int) := by omega
     have k1 : (0 : Int) ≤ (k : Int) := by omega
     have d0 : decide ((k : Int) < (n : Int)) = true := by simp [hkn]
     have d1 : ((k : Int) == (n : Int)) = false := by simp; omega
     have e2 : IntKind.i64.wrap ((k : Int) + 1) = ((k + 1 : Nat) : Int) := IntWalk.i64_in _ (by omega)
     obtain ⟨g, rfl, hc⟩ : ∃ g, la = some ⟨g, 0, none⟩ ∧ ∀ j u, (cellsS R)[j]? = some u → wr.cell? ⟨g, j, none⟩ = some u := by
      rcases row_form ROW.out with ⟨_, q2⟩ | ⟨g, c, q1, _, _, _, hc⟩
      ·omega
      ·cases q1; exact ⟨g, rfl, hc⟩
     obtain ⟨x, hx⟩ : ∃ x, nth R k = x := ⟨_, rfl⟩
     have gx := nth_get (l := R) (k := k) (by rw [HNL.out]; exact hkn)
     rw [hx] at gx
     have cl := (ReadsS.at (o := 0) (w := wr) (g := g) (fun j u hu => by rw [Nat.zero_add]; exact hc j u hu) gx).2.1
     rw [Nat.zero_add] at cl
     have HX := Lib.hid hx
     clear hx gx hc
     by_cases hlt : x.id < y.id
     ·have d2 : decide (x.id < y.id) = true := by simp [hlt]
      go_wp2
      refine wp_region_held_drew (S := (fun w' => w'.cell? ⟨g, k * 8 + 1, none⟩ = some (.int .i64 x.id) ∧ w'.cell? ⟨g2, o2 + i * 8 + 1, none⟩ = some (.int .i64 y.id))) (by kernel_rfl) ?_ (fun hHeld => ?_)
      ·exact ⟨cl, cs⟩
      refine tW 0 opAt0 hHeld ?_
      (try simp only [Act.put]); try simp only [z2, List.set]
      refine tW 1 opAt1 hHeld ?_
      (try simp only [Act.put]); try simp only [z2, List.set]
      refine tW 2 opAt2 hHeld ?_
      (try simp only [Act.put]); try simp only [z2, List.set]
      refine tW 3 opAt3 hHeld ?_
      (try simp only [Act.put]); try simp only [z2, List.set]
      refine tW 4 opAt4 hHeld ?_
      (try simp only [Act.put]); try simp only [z2, List.set]
      refine tW 5 opAt5 hHeld ?_
      (try simp only [Act.put]); try simp only [z2, List.set]
      refine tW 6 opAt6 hHeld ?_
      (try simp only [Act.put]); try simp only [z2, List.set]
      refine tW 7 opAt7 hHeld ?_
      (try simp only [Act.put]); try simp only [z2, List.set]
      refine tW 8 opAt8 hHeld ?_
      (try simp only [Act.put]); try simp only [z2, List.set]
      refine tW 9 opAt9 hHeld ?_
      (try simp only [Act.put]); try simp only [z2, List.set]
      refine tW 10 opAt10 hHeld ?_
      (try simp only [Act.put]); try simp only [z2, List.set]
      refine tW 11 opAt11 hHeld ?_
      (try simp only [Act.put]); try simp only [z2, List.set]
      refine tW 12 opAt12 hHeld ?_
      (try simp only [Act.put]); try simp only [z2, List.set]
      refine tW 13 opAt13 hHeld ?_
      (try simp only [Act.put]); try simp only [z2, List.set]
      refine tW 14 opAt14 hHeld ?_
      (try simp only [Act.put]); try simp only [z2, List.set]
      refine tW 15 opAt15 hHeld ?_
      (try simp only [Act.put]); try simp only [z2, List.set]
      refine tW 16 opAt16 hHeld ?_
      (try simp only [Act.put]); try simp only [z2, List.set]
      refine wpAnyH_done (by kernel_rfl) ?_ _
      go_wp2
      go_roundg (n - (k + 1))
      case measure => have := G2.out; omega
      case rel => exact ⟨k + 1, by omega, by go_num, fun t ht => by
       by_cases c : t = k
       ·subst c; rw [HX.out]; exact hlt
       ·exact LOW.out t (by omega), ROW.out.drew, KK.out.drew⟩
     ·have d2 : decide (x.id < y.id) = false := by simp; omega
      go_wp2
      refine wp_region_held_drew (S := (fun w' => w'.cell? ⟨g, k * 8 + 1, none⟩ = some (.int .i64 x.id) ∧ w'.cell? ⟨g2, o2 + i * 8 + 1, none⟩ = some (.int .i64 y.id))) (by kernel_rfl) ?_ (fun hHeld => ?_)
      ·exact ⟨cl, cs⟩
      refine tW 0 opAt0 hHeld ?_
      (try simp only [Act.put]); try simp only [z2, List.set]
      refine tW 1 opAt1 hHeld ?_
      (try simp only [Act.put]); try simp only [z2, List.set]
      refine tW 2 opAt2 hHeld ?_
      (try simp only [Act.put]); try simp only [z2, List.set]
      refine tW 3 opAt3 hHeld ?_
      (try simp only [Act.put]); try simp only [z2, List.set]
      refine tW 4 opAt4 hHeld ?_
      (try simp only [Act.put]); try simp only [z2, List.set]
      refine tW 5 opAt5 hHeld ?_
      (try simp only [Act.put]); try simp only [z2, List.set]
      refine tW 6 opAt6 hHeld ?_
      (try simp only [Act.put]); try simp only [z2, List.set]
      refine tW 7 opAt7 hHeld ?_
      (try simp only [Act.put]); try simp only [z2, List.set]
      refine tW 8 opAt8 hHeld ?_
      (try simp only [Act.put]); try simp only [z2, List.set]
      refine tW 9 opAt9 hHeld ?_
      (try simp only [Act.put]); try simp only [z2, List.set]
      refine tW 10 opAt10 hHeld ?_
      (try simp only [Act.put]); try simp only [z2, List.set]
      refine tW 11 opAt11 hHeld ?_
      (try simp only [Act.put]); try simp only [z2, List.set]
      refine tW 12 opAt12 hHeld ?_
      (try simp only [Act.put]); try simp only [z2, List.set]
      refine tW 13 opAt13 hHeld ?_
      (try simp only [Act.put]); try simp only [z2, List.set]
      refine tW 14 opAt14 hHeld ?_
      (try simp only [Act.put]); try simp only [z2, List.set]
      refine tW 15 opAt15 hHeld ?_
      (try simp only [Act.put]); try simp only [z2, List.set]
      refine tW 16 opAt16 hHeld ?_
      (try simp only [Act.put]); try simp only [z2, List.set]
      refine wpAnyH_done (by kernel_rfl) ?_ _
      go_wp2
      by_cases hid : x.id = y.id
      ·have d3 : (x.id != y.id) = false := by simp [hid]
       have EQ := Lib.hid (show cntN L (i + 1) = R from by
        rw [cntN, HR.out, HY.out, insS_at R y k (by rw [HNL.out]; omega) LOW.out (.inr (by rw [HX.out]; omega)), if_neg]
        rintro (h | h)
        ·rw [HNL.out] at h; omega
        ·rw [HX.out] at h; exact h hid)
       clear hid
       refine wp_region_held_drew (S := (fun w' => w'.cell? ⟨g, k * 8 + 1, none⟩ = some (.int .i64 x.id) ∧ w'.cell? ⟨g2, o2 + i * 8 + 1, none⟩ = some (.int .i64 y.id))) (by kernel_rfl) ?_ (fun hHeld => ?_)
       ·exact ⟨cl, cs⟩
       refine tW 0 opAt0 hHeld ?_
       (try simp only [Act.put]); try simp only [z2, List.set]
       refine tW 1 opAt1 hHeld ?_
       (try simp only [Act.put]); try simp only [z2, List.set]
       refine tW 2 opAt2 hHeld ?_
       (try simp only [Act.put]); try simp only [z2, List.set]
       refine tW 3 opAt3 hHeld ?_
       (try simp only [Act.put]); try simp only [z2, List.set]
       refine tW 4 opAt4 hHeld ?_
       (try simp only [Act.put]); try simp only [z2, List.set]
       refine tW 5 opAt5 hHeld ?_
       (try simp only [Act.put]); try simp only [z2, List.set]
       refine tW 6 opAt6 hHeld ?_
       (try simp only [Act.put]); try simp only [z2, List.set]
       refine tW 7 opAt7 hHeld ?_
       (try simp only [Act.put]); try simp only [z2, List.set]
       refine tW 8 opAt8 hHeld ?_
       (try simp only [Act.put]); try simp only [z2, List.set]
       refine tW 9 opAt9 hHeld ?_
       (try simp only [Act.put]); try simp only [z2, List.set]
       refine tW 10 opAt10 hHeld ?_
       (try simp only [Act.put]); try simp only [z2, List.set]
       refine tW 11 opAt11 hHeld ?_
       (try simp only [Act.put]); try simp only [z2, List.set]
       refine tW 12 opAt12 hHeld ?_
       (try simp only [Act.put]); try simp only [z2, List.set]
       refine tW 13 opAt13 hHeld ?_
       (try simp only [Act.put]); try simp only [z2, List.set]
       refine tW 14 opAt14 hHeld ?_
       (try simp only [Act.put]); try simp only [z2, List.set]
       refine tW 15 opAt15 hHeld ?_
       (try simp only [Act.put]); try simp only [z2, List.set]
       refine tW 16 opAt16 hHeld ?_
       (try simp only [Act.put]); try simp only [z2, List.set]
       refine wpAnyH_done (by kernel_rfl) ?_ _
       go_wp2
       go_roundg (m - (i + 1))
       case measure => have := G1.out; omega
       case rel => exact ⟨i + 1, _, cap, n, by omega, by go_num, rfl, by rw [EQ.out, HNL.out], by rw [EQ.out]; exact World.ownsRow.drew (World.ownsRow.drew ROW.out), KK.out.drew.drew⟩
      ·have d3 : (x.id != y.id) = true := by simp [hid]
       have INS := Lib.hid (show cntN L (i + 1) = R.take k ++ y :: R.drop k from by
        rw [cntN, HR.out, HY.out, insS_at R y k (by rw [HNL.out]; omega) LOW.out (.inr (by rw [HX.out]; omega)), if_pos (.inr (by rw [HX.out]; exact hid))])
       clear hid
       refine wp_region_held_drew (S := (fun w' => w'.cell? ⟨g, k * 8 + 1, none⟩ = some (.int .i64 x.id) ∧ w'.cell? ⟨g2, o2 + i * 8 + 1, none⟩ = some (.int .i64 y.id))) (by kernel_rfl) ?_ (fun hHeld => ?_)
       ·exact ⟨cl, cs⟩
       refine tW 0 opAt0 hHeld ?_
       (try simp only [Act.put]); try simp only [z2, List.set]
       refine tW 1 opAt1 hHeld ?_
       (try simp only [Act.put]); try simp only [z2, List.set]
       refine tW 2 opAt2 hHeld ?_
       (try simp only [Act.put]); try simp only [z2, List.set]
       refine tW 3 opAt3 hHeld ?_
       (try simp only [Act.put]); try simp only [z2, List.set]
       refine tW 4 opAt4 hHeld ?_
       (try simp only [Act.put]); try simp only [z2, List.set]
       refine tW 5 opAt5 hHeld ?_
       (try simp only [Act.put]); try simp only [z2, List.set]
       refine tW 6 opAt6 hHeld ?_
       (try simp only [Act.put]); try simp only [z2, List.set]
       refine tW 7 opAt7 hHeld ?_
       (try simp only [Act.put]); try simp only [z2, List.set]
       refine tW 8 opAt8 hHeld ?_
       (try simp only [Act.put]); try simp only [z2, List.set]
       refine tW 9 opAt9 hHeld ?_
       (try simp only [Act.put]); try simp only [z2, List.set]
       refine tW 10 opAt10 hHeld ?_
       (try simp only [Act.put]); try simp only [z2, List.set]
       refine tW 11 opAt11 hHeld ?_
       (try simp only [Act.put]); try simp only [z2, List.set]
       refine tW 12 opAt12 hHeld ?_
       (try simp only [Act.put]); try simp only [z2, List.set]
       refine tW 13 opAt13 hHeld ?_
       (try simp only [Act.put]); try simp only [z2, List.set]
       refine tW 14 opAt14 hHeld ?_
       (try simp only [Act.put]); try simp only [z2, List.set]
       refine tW 15 opAt15 hHeld ?_
       (try simp only [Act.put]); try simp only [z2, List.set]
       refine tW 16 opAt16 hHeld ?_
       (try simp only [Act.put]); try simp only [z2, List.set]
       refine wpAnyH_done (by kernel_rfl) ?_ _
       obtain ⟨X1, X2, rs1, rs2, sr1, sr2⟩ := slices_of ROW.out HNL.out k (by omega)
       have SRC1 := Lib.hid sr1; have SRC2 := Lib.hid sr2
       clear sr1 sr2
       go_wp2
       refine wp_region_held_drew (S := (fun w' => w'.rangeAt g2 (o2 + i * 8) y.cells)) (by kernel_rfl) ?_ (fun hHeld => ?_)
       ·exact ry
       refine tW 1 opAt1 hHeld ?_
       (try simp only [Act.put]); try simp only [z2, List.set]
       refine tW 2 opAt2 hHeld ?_
       (try simp only [Act.put]); try simp only [z2, List.set]
       refine tW 3 opAt3 hHeld ?_
       (try simp only [Act.put]); try simp only [z2, List.set]
       refine tW 5 opAt5 hHeld ?_
       (try simp only [Act.put]); try simp only [z2, List.set]
       refine tW 6 opAt6 hHeld ?_
       (try simp only [Act.put]); try simp only [z2, List.set]
       refine tW 7 opAt7 hHeld ?_
       (try simp only [Act.put]); try simp only [z2, List.set]
       refine wpAnyH_take (i := 8) (v := .agg #[.int .i64 y.tr, .int .i64 y.id, .int .i64 y.pa, .string y.se, .string y.ho, .int .i64 y.st, .int .i64 y.du, .string y.no]) opAt8 (by kernel_rfl) (by kernel_rfl) (by kernel_rfl) (fun _ _ _ h => h) (yieldsIf_load_mid (by rfl) 37 _ (by rfl) g2 (o2 + i * 8) (by rfl) y.cells _ (fun w hS => hS) Try.underlying37 rfl info24) hHeld ?_
       (try simp only [Act.put]); try simp only [z2, List.set]
       refine tW 11 opAt11 hHeld ?_
       (try simp only [Act.put]); try simp only [z2, List.set]
       refine tW 12 opAt12 hHeld ?_
       (try simp only [Act.put]); try simp only [z2, List.set]
       refine tW 13 opAt13 hHeld ?_
       (try simp only [Act.put]); try simp only [z2, List.set]
       refine wpAnyH_gen (fun V => Kept (fun _ => False) wr V ∧ V.rangeAt g2 (o2 + i * 8) y.cells) ⟨⟨rfl, rfl, rfl, Nat.le_refl _, fun _ _ _ => rfl⟩, ry⟩ ?_
       rintro V0 ⟨k0', hHeld⟩
       have K0 := Lib.hid k0'
       clear k0'
       refine wpAnyH_ready (rs := [0, 9]) (by kernel_rfl) (by simp) ?_
       refine AllReadyH.cons opAt0 (fun K hK => ?_) ?_
       ·go_simp
        have ho := World.ownsRow_made V0 #[] 0 (Nat.le_trans B0.out K0.out.size) (by unfold maxLen; omega) (by rfl) (e := 37) (size := 8) (base := b0)
        have hk := (Kept.refl (fun _ => False) V0).alloc (.cells #[] 37)
        have ge := K0.out.size
        have lt_ : V0.heap.size < (V0.alloc (.cells #[] 37)).heap.size := by simp
        generalize hV : V0.alloc (.cells #[] 37) = V1 at ho hk lt_ ⊢
        generalize he : V0.heap.size = e0 at ho ge lt_ ⊢
        have E := Lib.hid ho
        have EG := Lib.hid ge
        have ELT := Lib.hid lt_
        have K1 := Lib.hid (keptFF K0.out hk)
        clear ho hk ge lt_ hV he
        refine hK.out _ _ ?_ (fun hHeld => ?_)
        ·exact fun j u hu => K1.out.cell (ry j u hu) (fun f => f)
        clear hK K
        (try simp only [Act.put]); try simp only [z2, List.set]
        refine wpAnyH_ready (rs := [4, 9]) (by kernel_rfl) (by simp) ?_
        refine AllReadyH.cons opAt4 (fun K hK => ?_) ?_
        ·refine step_appG (by rfl) _ _ 27 (by rfl) b0 37 i24 _ 8 88 Try.underlying27 hi24 z24 s24 b24 (by rfl) (by decide) _ 0 [] (by rfl) E.out k (cellsS (R.take k)) X1 (by rfl) (SRC1.out.kept K1.out) (by rw [cellsS_length, List.length_take, Nat.min_eq_left (by rw [HNL.out]; omega)]) (cellsS_one _) (by unfold maxLen; omega) (by omega) (Nat.le_trans B0.out K1.out.size) ?_
         intro ao1 cap1 V2 hown hk hat
         rw [Nat.zero_add, List.nil_append] at hown
         rw [Nat.zero_add] at hat ⊢
         have A1 := Lib.hid hown
         have A1L := Lib.hid (show ∀ q, (Value.slice ao1 k cap1).ownBlock = some q → q < V2.heap.size from fun q hq => (own_lt hown hq).2)
         have A1G := Lib.hid (show ∀ q, (Value.slice ao1 k cap1).ownBlock = some q → wr.heap.size ≤ q from fun q hq => hat.elim (fun h => by rw [h] at hq; cases hq; exact EG.out) (fun h => by rw [h] at hq; cases hq; exact K1.out.size))
         have K2 := Lib.hid (K1.out.trans hk (fun _ _ f => f) (fun q h1 h2 => by cases h2; have h3 := EG.out; have h4 : e0 < wr.heap.size := h1; omega) : Kept (fun _ => False) wr V2)
         clear hown hk hat
         refine hK.out _ _ ?_ (fun hHeld => ?_)
         ·exact fun j u hu => K2.out.cell (ry j u hu) (fun f => f)
         clear hK K
         (try simp only [Act.put]); try simp only [z2, List.set]
         refine wpAnyH_ready (rs := [9]) (by kernel_rfl) (by simp) ?_
         refine AllReadyH.cons opAt9 (fun K hK => ?_) AllReadyH.nil
         go_simp
         have hn := World.news_of_block (heap_alloc_new V2 (.cells #[.int .i64 y.tr, .int .i64 y.id, .int .i64 y.pa, .string y.se, .string y.ho, .int .i64 y.st, .int .i64 y.du, .string y.no] 37))
         have hk := (Kept.refl (fun _ => False) V2).alloc (.cells #[.int .i64 y.tr, .int .i64 y.id, .int .i64 y.pa, .string y.se, .string y.ho, .int .i64 y.st, .int .i64 y.du, .string y.no] 37)
         have ge := K2.out.size
         have lt_ : V2.heap.size < (V2.alloc (.cells #[.int .i64 y.tr, .int .i64 y.id, .int .i64 y.pa, .string y.se, .string y.ho, .int .i64 y.st, .int .i64 y.du, .string y.no] 37)).heap.size := by simp
         generalize hV : V2.alloc (.cells #[.int .i64 y.tr, .int .i64 y.id, .int .i64 y.pa, .string y.se, .string y.ho, .int .i64 y.st, .int .i64 y.du, .string y.no] 37) = V3 at hn hk lt_ ⊢
         generalize he : V2.heap.size = sb at hn ge lt_ ⊢
         have SG := Lib.hid (show ∀ j u, y.cells[j]? = some u → _ from fun j u hu => hn j u hu)
         have SLT := Lib.hid lt_
         have K3 := Lib.hid (keptFF K2.out hk)
         have A1 := Lib.hid (own_keptS A1.out hk (fun _ _ f => f))
         have SN1 := Lib.hid (show ∀ q, (Value.slice ao1 k cap1).ownBlock = some q → q ≠ sb from fun q hq => by have h1 := A1L.out q hq; omega)
         clear hn hk ge lt_ hV he
         refine hK.out _ _ ?_ (fun hHeld => ?_)
         ·exact fun j u hu => K3.out.cell (ry j u hu) (fun f => f)
         clear hK K
         (try simp only [Act.put]); try simp only [z2, List.set]
         refine wpAnyH_ready (rs := [10]) (by kernel_rfl) (by simp) ?_
         refine AllReadyH.cons opAt10 (fun K hK => ?_) AllReadyH.nil
         refine step_appG (by rfl) _ _ 27 (by rfl) b0 37 i24 _ 8 88 Try.underlying27 hi24 z24 s24 b24 (by rfl) (by decide) _ k _ (by rfl) A1.out 1 y.cells (.slice (some ⟨sb, 0, none⟩) 1 1) (by rfl) ⟨_, _, rfl, .inr ⟨⟨sb, 0, none⟩, rfl, SG.out⟩⟩ (by rfl) (fun u hu => by simp [Spn.cells] at hu; rcases hu with rfl | rfl | rfl | rfl | rfl | rfl | rfl | rfl <;> rfl) (by unfold maxLen; omega) (by omega) (Nat.le_trans B0.out K3.out.size) ?_
         intro ao2 cap2 V4 hown hk hat
         have A2 := Lib.hid hown
         have A2G := Lib.hid (show ∀ q, (Value.slice ao2 (k + 1) cap2).ownBlock = some q → wr.heap.size ≤ q from fun q hq => hat.elim (fun h => by rw [h] at hq; exact A1G.out q hq) (fun h => by rw [h] at hq; cases hq; exact K3.out.size))
         have K4 := Lib.hid (K3.out.trans hk (fun _ _ f => f) (fun q h1 h2 => by have h3 := A1G.out q h2; omega) : Kept (fun _ => False) wr V4)
         clear hown hk hat
         refine hK.out _ _ ?_ (fun hHeld => ?_)
         ·exact fun j u hu => K4.out.cell (ry j u hu) (fun f => f)
         clear hK K
         (try simp only [Act.put]); try simp only [z2, List.set]
         refine wpAnyH_ready (rs := [14]) (by kernel_rfl) (by simp) ?_
         refine AllReadyH.cons opAt14 (fun K hK => ?_) AllReadyH.nil
         refine step_appG (by rfl) _ _ 27 (by rfl) b0 37 i24 _ 8 88 Try.underlying27 hi24 z24 s24 b24 (by rfl) (by decide) _ (k + 1) _ (by rfl) A2.out (n - k) (cellsS (R.drop k)) X2 (by rfl) (SRC2.out.kept K4.out) (by rw [cellsS_length, List.length_drop, HNL.out]) (cellsS_one _) (by unfold maxLen; omega) (by omega) (Nat.le_trans B0.out K4.out.size) ?_
         intro ao3 cap3 V5 hown hk hat
         have A3 := Lib.hid hown
         have K5 := Lib.hid (K4.out.trans hk (fun _ _ f => f) (fun q h1 h2 => by have h3 := A2G.out q h2; omega) : Kept (fun _ => False) wr V5)
         clear hown hk hat
         refine hK.out _ _ ?_ (fun hHeld => ?_)
         ·exact fun j u hu => K5.out.cell (ry j u hu) (fun f => f)
         clear hK K
         (try simp only [Act.put]); try simp only [z2, List.set]
         refine tW 15 opAt15 hHeld ?_
         (try simp only [Act.put]); try simp only [z2, List.set]
         refine wpAnyH_done (by kernel_rfl) ?_ _
         go_wp2
         go_roundg (m - (i + 1))
         case measure => have := G1.out; omega
         case rel => exact ⟨i + 1, _, _, k + 1 + (n - k), by omega, by go_num, rfl, by rw [INS.out]; simp [HNL.out]; omega, by rw [INS.out, cellsS_append, cellsS, ← List.append_assoc]; exact A3.out, keptFF KK.out K5.out⟩
        refine AllReadyH.cons opAt9 (fun K hK => ?_) AllReadyH.nil
        go_simp
        have hn := World.news_of_block (heap_alloc_new V1 (.cells #[.int .i64 y.tr, .int .i64 y.id, .int .i64 y.pa, .string y.se, .string y.ho, .int .i64 y.st, .int .i64 y.du, .string y.no] 37))
        have hk := (Kept.refl (fun _ => False) V1).alloc (.cells #[.int .i64 y.tr, .int .i64 y.id, .int .i64 y.pa, .string y.se, .string y.ho, .int .i64 y.st, .int .i64 y.du, .string y.no] 37)
        have ge := K1.out.size
        have lt_ : V1.heap.size < (V1.alloc (.cells #[.int .i64 y.tr, .int .i64 y.id, .int .i64 y.pa, .string y.se, .string y.ho, .int .i64 y.st, .int .i64 y.du, .string y.no] 37)).heap.size := by simp
        generalize hV : V1.alloc (.cells #[.int .i64 y.tr, .int .i64 y.id, .int .i64 y.pa, .string y.se, .string y.ho, .int .i64 y.st, .int .i64 y.du, .string y.no] 37) = V2 at hn hk lt_ ⊢
        generalize he : V1.heap.size = sb at hn ge lt_ ⊢
        have SG := Lib.hid (show ∀ j u, y.cells[j]? = some u → _ from fun j u hu => hn j u hu)
        have SLT := Lib.hid lt_
        have K2 := Lib.hid (keptFF K1.out hk)
        have E := Lib.hid (own_keptS E.out hk (fun _ _ f => f))
        have SNE := Lib.hid (show sb ≠ e0 from by have h1 := ELT.out; omega)
        clear hn hk ge lt_ hV he
        refine hK.out _ _ ?_ (fun hHeld => ?_)
        ·exact fun j u hu => K2.out.cell (ry j u hu) (fun f => f)
        clear hK K
        (try simp only [Act.put]); try simp only [z2, List.set]
        refine wpAnyH_ready (rs := [4]) (by kernel_rfl) (by simp) ?_
        refine AllReadyH.cons opAt4 (fun K hK => ?_) AllReadyH.nil
        refine step_appG (by rfl) _ _ 27 (by rfl) b0 37 i24 _ 8 88 Try.underlying27 hi24 z24 s24 b24 (by rfl) (by decide) _ 0 [] (by rfl) E.out k (cellsS (R.take k)) X1 (by rfl) (SRC1.out.kept K2.out) (by rw [cellsS_length, List.length_take, Nat.min_eq_left (by rw [HNL.out]; omega)]) (cellsS_one _) (by unfold maxLen; omega) (by omega) (Nat.le_trans B0.out K2.out.size) ?_
        intro ao1 cap1 V3 hown hk hat
        rw [Nat.zero_add, List.nil_append] at hown
        rw [Nat.zero_add] at hat ⊢
        have A1 := Lib.hid hown
        have A1L := Lib.hid (show ∀ q, (Value.slice ao1 k cap1).ownBlock = some q → q < V3.heap.size from fun q hq => (own_lt hown hq).2)
        have A1G := Lib.hid (show ∀ q, (Value.slice ao1 k cap1).ownBlock = some q → wr.heap.size ≤ q from fun q hq => hat.elim (fun h => by rw [h] at hq; cases hq; exact EG.out) (fun h => by rw [h] at hq; cases hq; exact K2.out.size))
        have K3 := Lib.hid (K2.out.trans hk (fun _ _ f => f) (fun q h1 h2 => by cases h2; have h3 := EG.out; have h4 : e0 < wr.heap.size := h1; omega) : Kept (fun _ => False) wr V3)
        have SG := Lib.hid (show ∀ j u, y.cells[j]? = some u → V3.cell? ((⟨sb, 0, none⟩ : Addr).add j) = some u from fun j u hu => hk.cell (SG.out j u hu) (fun h => by cases h; have h3 := SNE.out; simp [add_mid] at h3))
        have SN1 := Lib.hid (show ∀ q, (Value.slice ao1 k cap1).ownBlock = some q → q ≠ sb from fun q hq => hat.elim (fun h => by rw [h] at hq; cases hq; exact fun e => SNE.out e.symm) (fun h => by rw [h] at hq; cases hq; have h1 := SLT.out; omega))
        clear hown hk hat
        refine hK.out _ _ ?_ (fun hHeld => ?_)
        ·exact fun j u hu => K3.out.cell (ry j u hu) (fun f => f)
        clear hK K
        (try simp only [Act.put]); try simp only [z2, List.set]
        refine wpAnyH_ready (rs := [10]) (by kernel_rfl) (by simp) ?_
        refine AllReadyH.cons opAt10 (fun K hK => ?_) AllReadyH.nil
        refine step_appG (by rfl) _ _ 27 (by rfl) b0 37 i24 _ 8 88 Try.underlying27 hi24 z24 s24 b24 (by rfl) (by decide) _ k _ (by rfl) A1.out 1 y.cells (.slice (some ⟨sb, 0, none⟩) 1 1) (by rfl) ⟨_, _, rfl, .inr ⟨⟨sb, 0, none⟩, rfl, SG.out⟩⟩ (by rfl) (fun u hu => by simp [Spn.cells] at hu; rcases hu with rfl | rfl | rfl | rfl | rfl | rfl | rfl | rfl <;> rfl) (by unfold maxLen; omega) (by omega) (Nat.le_trans B0.out K3.out.size) ?_
        intro ao2 cap2 V4 hown hk hat
        have A2 := Lib.hid hown
        have A2G := Lib.hid (show ∀ q, (Value.slice ao2 (k + 1) cap2).ownBlock = some q → wr.heap.size ≤ q from fun q hq => hat.elim (fun h => by rw [h] at hq; exact A1G.out q hq) (fun h => by rw [h] at hq; cases hq; exact K3.out.size))
        have K4 := Lib.hid (K3.out.trans hk (fun _ _ f => f) (fun q h1 h2 => by have h3 := A1G.out q h2; omega) : Kept (fun _ => False) wr V4)
        clear hown hk hat
        refine hK.out _ _ ?_ (fun hHeld => ?_)
        ·exact fun j u hu => K4.out.cell (ry j u hu) (fun f => f)
        clear hK K
        (try simp only [Act.put]); try simp only [z2, List.set]
        refine wpAnyH_ready (rs := [14]) (by kernel_rfl) (by simp) ?_
        refine AllReadyH.cons opAt14 (fun K hK => ?_) AllReadyH.nil
        refine step_appG (by rfl) _ _ 27 (by rfl) b0 37 i24 _ 8 88 Try.underlying27 hi24 z24 s24 b24 (by rfl) (by decide) _ (k + 1) _ (by rfl) A2.out (n - k) (cellsS (R.drop k)) X2 (by rfl) (SRC2.out.kept K4.out) (by rw [cellsS_length, List.length_drop, HNL.out]) (cellsS_one _) (by unfold maxLen; omega) (by omega) (Nat.le_trans B0.out K4.out.size) ?_
        intro ao3 cap3 V5 hown hk hat
        have A3 := Lib.hid hown
        have K5 := Lib.hid (K4.out.trans hk (fun _ _ f => f) (fun q h1 h2 => by have h3 := A2G.out q h2; omega) : Kept (fun _ => False) wr V5)
        clear hown hk hat
        refine hK.out _ _ ?_ (fun hHeld => ?_)
        ·exact fun j u hu => K5.out.cell (ry j u hu) (fun f => f)
        clear hK K
        (try simp only [Act.put]); try simp only [z2, List.set]
        refine tW 15 opAt15 hHeld ?_
        (try simp only [Act.put]); try simp only [z2, List.set]
        refine wpAnyH_done (by kernel_rfl) ?_ _
        go_wp2
        go_roundg (m - (i + 1))
        case measure => have := G1.out; omega
        case rel => exact ⟨i + 1, _, _, k + 1 + (n - k), by omega, by go_num, rfl, by rw [INS.out]; simp [HNL.out]; omega, by rw [INS.out, cellsS_append, cellsS, ← List.append_assoc]; exact A3.out, keptFF KK.out K5.out⟩
       refine AllReadyH.cons opAt9 (fun K hK => ?_) AllReadyH.nil
       go_simp
       have hn := World.news_of_block (heap_alloc_new V0 (.cells #[.int .i64 y.tr, .int .i64 y.id, .int .i64 y.pa, .string y.se, .string y.ho, .int .i64 y.st, .int .i64 y.du, .string y.no] 37))
       have hk := (Kept.refl (fun _ => False) V0).alloc (.cells #[.int .i64 y.tr, .int .i64 y.id, .int .i64 y.pa, .string y.se, .string y.ho, .int .i64 y.st, .int .i64 y.du, .string y.no] 37)
       have ge := K0.out.size
       have lt_ : V0.heap.size < (V0.alloc (.cells #[.int .i64 y.tr, .int .i64 y.id, .int .i64 y.pa, .string y.se, .string y.ho, .int .i64 y.st, .int .i64 y.du, .string y.no] 37)).heap.size := by simp
       generalize hV : V0.alloc (.cells #[.int .i64 y.tr, .int .i64 y.id, .int .i64 y.pa, .string y.se, .string y.ho, .int .i64 y.st, .int .i64 y.du, .string y.no] 37) = V1 at hn hk lt_ ⊢
       generalize he : V0.heap.size = sb at hn ge lt_ ⊢
       have SG := Lib.hid (show ∀ j u, y.cells[j]? = some u → _ from fun j u hu => hn j u hu)
       have SLT := Lib.hid lt_
       have K1 := Lib.hid (keptFF K0.out hk)
       clear hn hk ge lt_ hV he
       refine hK.out _ _ ?_ (fun hHeld => ?_)
       ·exact fun j u hu => K1.out.cell (ry j u hu) (fun f => f)
       clear hK K
       (try simp only [Act.put]); try simp only [z2, List.set]
       refine wpAnyH_ready (rs := [0]) (by kernel_rfl) (by simp) ?_
       refine AllReadyH.cons opAt0 (fun K hK => ?_) AllReadyH.nil
       go_simp
       have ho := World.ownsRow_made V1 #[] 0 (Nat.le_trans B0.out K1.out.size) (by unfold maxLen; omega) (by rfl) (e := 37) (size := 8) (base := b0)
       have hk := (Kept.refl (fun _ => False) V1).alloc (.cells #[] 37)
       have ge := K1.out.size
       have lt_ : V1.heap.size < (V1.alloc (.cells #[] 37)).heap.size := by simp
       have SNEp := Lib.hid (show sb ≠ V1.heap.size from by have h1 := SLT.out; omega)
       generalize hV : V1.alloc (.cells #[] 37) = V2 at ho hk lt_ ⊢
       generalize he : V1.heap.size = e0 at ho ge lt_ SNEp ⊢
       have E := Lib.hid ho
       have EG := Lib.hid ge
       have ELT := Lib.hid lt_
       have K2 := Lib.hid (keptFF K1.out hk)
       have SG := Lib.hid (show ∀ j u, y.cells[j]? = some u → V2.cell? ((⟨sb, 0, none⟩ : Addr).add j) = some u from fun j u hu => hk.cell (SG.out j u hu) (fun f => f))
       have SNE := SNEp
       have SLT := Lib.hid (show sb < V2.heap.size from by have h1 := SLT.out; have h2 := hk.size; omega)
       clear ho hk ge lt_ hV he
       refine hK.out _ _ ?_ (fun hHeld => ?_)
       ·exact fun j u hu => K2.out.cell (ry j u hu) (fun f => f)
       clear hK K
       (try simp only [Act.put]); try simp only [z2, List.set]
       refine wpAnyH_ready (rs := [4]) (by kernel_rfl) (by simp) ?_
       refine AllReadyH.cons opAt4 (fun K hK => ?_) AllReadyH.nil
       refine step_appG (by rfl) _ _ 27 (by rfl) b0 37 i24 _ 8 88 Try.underlying27 hi24 z24 s24 b24 (by rfl) (by decide) _ 0 [] (by rfl) E.out k (cellsS (R.take k)) X1 (by rfl) (SRC1.out.kept K2.out) (by rw [cellsS_length, List.length_take, Nat.min_eq_left (by rw [HNL.out]; omega)]) (cellsS_one _) (by unfold maxLen; omega) (by omega) (Nat.le_trans B0.out K2.out.size) ?_
       intro ao1 cap1 V3 hown hk hat
       rw [Nat.zero_add, List.nil_append] at hown
       rw [Nat.zero_add] at hat ⊢
       have A1 := Lib.hid hown
       have A1L := Lib.hid (show ∀ q, (Value.slice ao1 k cap1).ownBlock = some q → q < V3.heap.size from fun q hq => (own_lt hown hq).2)
       have A1G := Lib.hid (show ∀ q, (Value.slice ao1 k cap1).ownBlock = some q → wr.heap.size ≤ q from fun q hq => hat.elim (fun h => by rw [h] at hq; cases hq; exact EG.out) (fun h => by rw [h] at hq; cases hq; exact K2.out.size))
       have K3 := Lib.hid (K2.out.trans hk (fun _ _ f => f) (fun q h1 h2 => by cases h2; have h3 := EG.out; have h4 : e0 < wr.heap.size := h1; omega) : Kept (fun _ => False) wr V3)
       have SG := Lib.hid (show ∀ j u, y.cells[j]? = some u → V3.cell? ((⟨sb, 0, none⟩ : Addr).add j) = some u from fun j u hu => hk.cell (SG.out j u hu) (fun h => by cases h; have h3 := SNE.out; simp [add_mid] at h3))
       have SN1 := Lib.hid (show ∀ q, (Value.slice ao1 k cap1).ownBlock = some q → q ≠ sb from fun q hq => hat.elim (fun h => by rw [h] at hq; cases hq; exact fun e => SNE.out e.symm) (fun h => by rw [h] at hq; cases hq; have h1 := SLT.out; omega))
       clear hown hk hat
       refine hK.out _ _ ?_ (fun hHeld => ?_)
       ·exact fun j u hu => K3.out.cell (ry j u hu) (fun f => f)
       clear hK K
       (try simp only [Act.put]); try simp only [z2, List.set]
       refine wpAnyH_ready (rs := [10]) (by kernel_rfl) (by simp) ?_
       refine AllReadyH.cons opAt10 (fun K hK => ?_) AllReadyH.nil
       refine step_appG (by rfl) _ _ 27 (by rfl) b0 37 i24 _ 8 88 Try.underlying27 hi24 z24 s24 b24 (by rfl) (by decide) _ k _ (by rfl) A1.out 1 y.cells (.slice (some ⟨sb, 0, none⟩) 1 1) (by rfl) ⟨_, _, rfl, .inr ⟨⟨sb, 0, none⟩, rfl, SG.out⟩⟩ (by rfl) (fun u hu => by simp [Spn.cells] at hu; rcases hu with rfl | rfl | rfl | rfl | rfl | rfl | rfl | rfl <;> rfl) (by unfold maxLen; omega) (by omega) (Nat.le_trans B0.out K3.out.size) ?_
       intro ao2 cap2 V4 hown hk hat
       have A2 := Lib.hid hown
       have A2G := Lib.hid (show ∀ q, (Value.slice ao2 (k + 1) cap2).ownBlock = some q → wr.heap.size ≤ q from fun q hq => hat.elim (fun h => by rw [h] at hq; exact A1G.out q hq) (fun h => by rw [h] at hq; cases hq; exact K3.out.size))
       have K4 := Lib.hid (K3.out.trans hk (fun _ _ f => f) (fun q h1 h2 => by have h3 := A1G.out q h2; omega) : Kept (fun _ => False) wr V4)
       clear hown hk hat
       refine hK.out _ _ ?_ (fun hHeld => ?_)
       ·exact fun j u hu => K4.out.cell (ry j u hu) (fun f => f)
       clear hK K
       (try simp only [Act.put]); try simp only [z2, List.set]
       refine wpAnyH_ready (rs := [14]) (by kernel_rfl) (by simp) ?_
       refine AllReadyH.cons opAt14 (fun K hK => ?_) AllReadyH.nil
       refine step_appG (by rfl) _ _ 27 (by rfl) b0 37 i24 _ 8 88 Try.underlying27 hi24 z24 s24 b24 (by rfl) (by decide) _ (k + 1) _ (by rfl) A2.out (n - k) (cellsS (R.drop k)) X2 (by rfl) (SRC2.out.kept K4.out) (by rw [cellsS_length, List.length_drop, HNL.out]) (cellsS_one _) (by unfold maxLen; omega) (by omega) (Nat.le_trans B0.out K4.out.size) ?_
       intro ao3 cap3 V5 hown hk hat
       have A3 := Lib.hid hown
       have K5 := Lib.hid (K4.out.trans hk (fun _ _ f => f) (fun q h1 h2 => by have h3 := A2G.out q h2; omega) : Kept (fun _ => False) wr V5)
       clear hown hk hat
       refine hK.out _ _ ?_ (fun hHeld => ?_)
       ·exact fun j u hu => K5.out.cell (ry j u hu) (fun f => f)
       clear hK K
       (try simp only [Act.put]); try simp only [z2, List.set]
       refine tW 15 opAt15 hHeld ?_
       (try simp only [Act.put]); try simp only [z2, List.set]
       refine wpAnyH_done (by kernel_rfl) ?_ _
       go_wp2
       go_roundg (m - (i + 1))
       case measure => have := G1.out; omega
       case rel => exact ⟨i + 1, _, _, k + 1 + (n - k), by omega, by go_num, rfl, by rw [INS.out]; simp [HNL.out]; omega, by rw [INS.out, cellsS_append, cellsS, ← List.append_assoc]; exact A3.out, keptFF KK.out K5.out⟩
    ·have k0 : ¬ (k : Int) < (n : Int) := by omega
     have d0 : decide ((k : Int) < (n : Int)) = false := by simp; omega
     go_wp2
     refine wp_region_held_drew (S := (fun _ => True)) (by kernel_rfl) ?_ (fun hHeld => ?_)
     ·trivial
     refine tW 0 opAt0 hHeld ?_
     (try simp only [Act.put]); try simp only [z2, List.set]
     refine tW 1 opAt1 hHeld ?_
     (try simp only [Act.put]); try simp only [z2, List.set]
     refine tW 2 opAt2 hHeld ?_
     (try simp only [Act.put]); try simp only [z2, List.set]
     refine tW 3 opAt3 hHeld ?_
     (try simp only [Act.put]); try simp only [z2, List.set]
     refine tW 4 opAt4 hHeld ?_
     (try simp only [Act.put]); try simp only [z2, List.set]
     refine tU 5 opAt5 hHeld ?_
     (try simp only [Act.put]); try simp only [z2, List.set]
     refine tU 6 opAt6 hHeld ?_
     (try simp only [Act.put]); try simp only [z2, List.set]
     refine tU 7 opAt7 hHeld ?_
     (try simp only [Act.put]); try simp only [z2, List.set]
     refine tU 8 opAt8 hHeld ?_
     (try simp only [Act.put]); try simp only [z2, List.set]
     refine tU 9 opAt9 hHeld ?_
     (try simp only [Act.put]); try simp only [z2, List.set]
     refine tU 10 opAt10 hHeld ?_
     (try simp only [Act.put]); try simp only [z2, List.set]
     refine tU 11 opAt11 hHeld ?_
     (try simp only [Act.put]); try simp only [z2, List.set]
     refine tU 12 opAt12 hHeld ?_
     (try simp only [Act.put]); try simp only [z2, List.set]
     refine tU 13 opAt13 hHeld ?_
     (try simp only [Act.put]); try simp only [z2, List.set]
     refine tU 14 opAt14 hHeld ?_
     (try simp only [Act.put]); try simp only [z2, List.set]
     refine tU 15 opAt15 hHeld ?_
     (try simp only [Act.put]); try simp only [z2, List.set]
     refine tW 16 opAt16 hHeld ?_
     (try simp only [Act.put]); try simp only [z2, List.set]
     refine wpAnyH_done (by kernel_rfl) ?_ _
     have d1 : ((k : Int) == (n : Int)) = true := by have := G2.out; simp; omega
     have INS := Lib.hid (show cntN L (i + 1) = R.take k ++ y :: R.drop k from by
      have hkn' : k = R.length := by rw [HNL.out]; have := G2.out; omega
      rw [cntN, HR.out, HY.out, insS_at R y k (by omega) LOW.out (.inl hkn'), if_pos (.inl hkn')])
     go_wp2
     refine wp_region_held_drew (S := (fun _ => True)) (by kernel_rfl) ?_ (fun hHeld => ?_)
     ·trivial
     refine tW 0 opAt0 hHeld ?_
     (try simp only [Act.put]); try simp only [z2, List.set]
     refine tW 1 opAt1 hHeld ?_
     (try simp only [Act.put]); try simp only [z2, List.set]
     refine tW 2 opAt2 hHeld ?_
     (try simp only [Act.put]); try simp only [z2, List.set]
     refine tW 3 opAt3 hHeld ?_
     (try simp only [Act.put]); try simp only [z2, List.set]
     refine tW 4 opAt4 hHeld ?_
     (try simp only [Act.put]); try simp only [z2, List.set]
     refine tU 5 opAt5 hHeld ?_
     (try simp only [Act.put]); try simp only [z2, List.set]
     refine tU 6 opAt6 hHeld ?_
     (try simp only [Act.put]); try simp only [z2, List.set]
     refine tU 7 opAt7 hHeld ?_
     (try simp only [Act.put]); try simp only [z2, List.set]
     refine tU 8 opAt8 hHeld ?_
     (try simp only [Act.put]); try simp only [z2, List.set]
     refine tU 9 opAt9 hHeld ?_
     (try simp only [Act.put]); try simp only [z2, List.set]
     refine tU 10 opAt10 hHeld ?_
     (try simp only [Act.put]); try simp only [z2, List.set]
     refine tU 11 opAt11 hHeld ?_
     (try simp only [Act.put]); try simp only [z2, List.set]
     refine tU 12 opAt12 hHeld ?_
     (try simp only [Act.put]); try simp only [z2, List.set]
     refine tU 13 opAt13 hHeld ?_
     (try simp only [Act.put]); try simp only [z2, List.set]
     refine tU 14 opAt14 hHeld ?_
     (try simp only [Act.put]); try simp only [z2, List.set]
     refine tU 15 opAt15 hHeld ?_
     (try simp only [Act.put]); try simp only [z2, List.set]
     refine tW 16 opAt16 hHeld ?_
     (try simp only [Act.put]); try simp only [z2, List.set]
     refine wpAnyH_done (by kernel_rfl) ?_ _
     obtain ⟨X1, X2, rs1, rs2, sr1, sr2⟩ := slices_of ROW.out HNL.out k (by have := G2.out; omega)
     have SRC1 := Lib.hid sr1; have SRC2 := Lib.hid sr2
     have hkle : k ≤ n := by have := G2.out; omega
     clear sr1 sr2
     go_wp2
     refine wp_region_held_drew (S := (fun w' => w'.rangeAt g2 (o2 + i * 8) y.cells)) (by kernel_rfl) ?_ (fun hHeld => ?_)
     ·exact ry
     refine tW 1 opAt1 hHeld ?_
     (try simp only [Act.put]); try simp only [z2, List.set]
     refine tW 2 opAt2 hHeld ?_
     (try simp only [Act.put]); try simp only [z2, List.set]
     refine tW 3 opAt3 hHeld ?_
     (try simp only [Act.put]); try simp only [z2, List.set]
     refine tW 5 opAt5 hHeld ?_
     (try simp only [Act.put]); try simp only [z2, List.set]
     refine tW 6 opAt6 hHeld ?_
     (try simp only [Act.put]); try simp only [z2, List.set]
     refine tW 7 opAt7 hHeld ?_
     (try simp only [Act.put]); try simp only [z2, List.set]
     refine wpAnyH_take (i := 8) (v := .agg #[.int .i64 y.tr, .int .i64 y.id, .int .i64 y.pa, .string y.se, .string y.ho, .int .i64 y.st, .int .i64 y.du, .string y.no]) opAt8 (by kernel_rfl) (by kernel_rfl) (by kernel_rfl) (fun _ _ _ h => h) (yieldsIf_load_mid (by rfl) 37 _ (by rfl) g2 (o2 + i * 8) (by rfl) y.cells _ (fun w hS => hS) Try.underlying37 rfl info24) hHeld ?_
     (try simp only [Act.put]); try simp only [z2, List.set]
     refine tW 11 opAt11 hHeld ?_
     (try simp only [Act.put]); try simp only [z2, List.set]
     refine tW 12 opAt12 hHeld ?_
     (try simp only [Act.put]); try simp only [z2, List.set]
     refine tW 13 opAt13 hHeld ?_
     (try simp only [Act.put]); try simp only [z2, List.set]
     refine wpAnyH_gen (fun V => Kept (fun _ => False) wr V ∧ V.rangeAt g2 (o2 + i * 8) y.cells) ⟨⟨rfl, rfl, rfl, Nat.le_refl _, fun _ _ _ => rfl⟩, ry⟩ ?_
     rintro V0 ⟨k0', hHeld⟩
     have K0 := Lib.hid k0'
     clear k0'
     refine wpAnyH_ready (rs := [0, 9]) (by kernel_rfl) (by simp) ?_
     refine AllReadyH.cons opAt0 (fun K hK => ?_) ?_
     ·go_simp
      have ho := World.ownsRow_made V0 #[] 0 (Nat.le_trans B0.out K0.out.size) (by unfold maxLen; omega) (by rfl) (e := 37) (size := 8) (base := b0)
      have hk := (Kept.refl (fun _ => False) V0).alloc (.cells #[] 37)
      have ge := K0.out.size
      have lt_ : V0.heap.size < (V0.alloc (.cells #[] 37)).heap.size := by simp
      generalize hV : V0.alloc (.cells #[] 37) = V1 at ho hk lt_ ⊢
      generalize he : V0.heap.size = e0 at ho ge lt_ ⊢
      have E := Lib.hid ho
      have EG := Lib.hid ge
      have ELT := Lib.hid lt_
      have K1 := Lib.hid (keptFF K0.out hk)
      clear ho hk ge lt_ hV he
      refine hK.out _ _ ?_ (fun hHeld => ?_)
      ·exact fun j u hu => K1.out.cell (ry j u hu) (fun f => f)
      clear hK K
      (try simp only [Act.put]); try simp only [z2, List.set]
      refine wpAnyH_ready (rs := [4, 9]) (by kernel_rfl) (by simp) ?_
      refine AllReadyH.cons opAt4 (fun K hK => ?_) ?_
      ·refine step_appG (by rfl) _ _ 27 (by rfl) b0 37 i24 _ 8 88 Try.underlying27 hi24 z24 s24 b24 (by rfl) (by decide) _ 0 [] (by rfl) E.out k (cellsS (R.take k)) X1 (by rfl) (SRC1.out.kept K1.out) (by rw [cellsS_length, List.length_take, Nat.min_eq_left (by rw [HNL.out]; omega)]) (cellsS_one _) (by unfold maxLen; omega) (by omega) (Nat.le_trans B0.out K1.out.size) ?_
       intro ao1 cap1 V2 hown hk hat
       rw [Nat.zero_add, List.nil_append] at hown
       rw [Nat.zero_add] at hat ⊢
       have A1 := Lib.hid hown
       have A1L := Lib.hid (show ∀ q, (Value.slice ao1 k cap1).ownBlock = some q → q < V2.heap.size from fun q hq => (own_lt hown hq).2)
       have A1G := Lib.hid (show ∀ q, (Value.slice ao1 k cap1).ownBlock = some q → wr.heap.size ≤ q from fun q hq => hat.elim (fun h => by rw [h] at hq; cases hq; exact EG.out) (fun h => by rw [h] at hq; cases hq; exact K1.out.size))
       have K2 := Lib.hid (K1.out.trans hk (fun _ _ f => f) (fun q h1 h2 => by cases h2; have h3 := EG.out; have h4 : e0 < wr.heap.size := h1; omega) : Kept (fun _ => False) wr V2)
       clear hown hk hat
       refine hK.out _ _ ?_ (fun hHeld => ?_)
       ·exact fun j u hu => K2.out.cell (ry j u hu) (fun f => f)
       clear hK K
       (try simp only [Act.put]); try simp only [z2, List.set]
       refine wpAnyH_ready (rs := [9]) (by kernel_rfl) (by simp) ?_
       refine AllReadyH.cons opAt9 (fun K hK => ?_) AllReadyH.nil
       go_simp
       have hn := World.news_of_block (heap_alloc_new V2 (.cells #[.int .i64 y.tr, .int .i64 y.id, .int .i64 y.pa, .string y.se, .string y.ho, .int .i64 y.st, .int .i64 y.du, .string y.no] 37))
       have hk := (Kept.refl (fun _ => False) V2).alloc (.cells #[.int .i64 y.tr, .int .i64 y.id, .int .i64 y.pa, .string y.se, .string y.ho, .int .i64 y.st, .int .i64 y.du, .string y.no] 37)
       have ge := K2.out.size
       have lt_ : V2.heap.size < (V2.alloc (.cells #[.int .i64 y.tr, .int .i64 y.id, .int .i64 y.pa, .string y.se, .string y.ho, .int .i64 y.st, .int .i64 y.du, .string y.no] 37)).heap.size := by simp
       generalize hV : V2.alloc (.cells #[.int .i64 y.tr, .int .i64 y.id, .int .i64 y.pa, .string y.se, .string y.ho, .int .i64 y.st, .int .i64 y.du, .string y.no] 37) = V3 at hn hk lt_ ⊢
       generalize he : V2.heap.size = sb at hn ge lt_ ⊢
       have SG := Lib.hid (show ∀ j u, y.cells[j]? = some u → _ from fun j u hu => hn j u hu)
       have SLT := Lib.hid lt_
       have K3 := Lib.hid (keptFF K2.out hk)
       have A1 := Lib.hid (own_keptS A1.out hk (fun _ _ f => f))
       have SN1 := Lib.hid (show ∀ q, (Value.slice ao1 k cap1).ownBlock = some q → q ≠ sb from fun q hq => by have h1 := A1L.out q hq; omega)
       clear hn hk ge lt_ hV he
       refine hK.out _ _ ?_ (fun hHeld => ?_)
       ·exact fun j u hu => K3.out.cell (ry j u hu) (fun f => f)
       clear hK K
       (try simp only [Act.put]); try simp only [z2, List.set]
       refine wpAnyH_ready (rs := [10]) (by kernel_rfl) (by simp) ?_
       refine AllReadyH.cons opAt10 (fun K hK => ?_) AllReadyH.nil
       refine step_appG (by rfl) _ _ 27 (by rfl) b0 37 i24 _ 8 88 Try.underlying27 hi24 z24 s24 b24 (by rfl) (by decide) _ k _ (by rfl) A1.out 1 y.cells (.slice (some ⟨sb, 0, none⟩) 1 1) (by rfl) ⟨_, _, rfl, .inr ⟨⟨sb, 0, none⟩, rfl, SG.out⟩⟩ (by rfl) (fun u hu => by simp [Spn.cells] at hu; rcases hu with rfl | rfl | rfl | rfl | rfl | rfl | rfl | rfl <;> rfl) (by unfold maxLen; omega) (by omega) (Nat.le_trans B0.out K3.out.size) ?_
       intro ao2 cap2 V4 hown hk hat
       have A2 := Lib.hid hown
       have A2G := Lib.hid (show ∀ q, (Value.slice ao2 (k + 1) cap2).ownBlock = some q → wr.heap.size ≤ q from fun q hq => hat.elim (fun h => by rw [h] at hq; exact A1G.out q hq) (fun h => by rw [h] at hq; cases hq; exact K3.out.size))
       have K4 := Lib.hid (K3.out.trans hk (fun _ _ f => f) (fun q h1 h2 => by have h3 := A1G.out q h2; omega) : Kept (fun _ => False) wr V4)
       clear hown hk hat
       refine hK.out _ _ ?_ (fun hHeld => ?_)
       ·exact fun j u hu => K4.out.cell (ry j u hu) (fun f => f)
       clear hK K
       (try simp only [Act.put]); try simp only [z2, List.set]
       refine wpAnyH_ready (rs := [14]) (by kernel_rfl) (by simp) ?_
       refine AllReadyH.cons opAt14 (fun K hK => ?_) AllReadyH.nil
       refine step_appG (by rfl) _ _ 27 (by rfl) b0 37 i24 _ 8 88 Try.underlying27 hi24 z24 s24 b24 (by rfl) (by decide) _ (k + 1) _ (by rfl) A2.out (n - k) (cellsS (R.drop k)) X2 (by rfl) (SRC2.out.kept K4.out) (by rw [cellsS_length, List.length_drop, HNL.out]) (cellsS_one _) (by unfold maxLen; omega) (by omega) (Nat.le_trans B0.out K4.out.size) ?_
       intro ao3 cap3 V5 hown hk hat
       have A3 := Lib.hid hown
       have K5 := Lib.hid (K4.out.trans hk (fun _ _ f => f) (fun q h1 h2 => by have h3 := A2G.out q h2; omega) : Kept (fun _ => False) wr V5)
       clear hown hk hat
       refine hK.out _ _ ?_ (fun hHeld => ?_)
       ·exact fun j u hu => K5.out.cell (ry j u hu) (fun f => f)
       clear hK K
       (try simp only [Act.put]); try simp only [z2, List.set]
       refine tW 15 opAt15 hHeld ?_
       (try simp only [Act.put]); try simp only [z2, List.set]
       refine wpAnyH_done (by kernel_rfl) ?_ _
       go_wp2
       go_roundg (m - (i + 1))
       case measure => have := G1.out; omega
       case rel => exact ⟨i + 1, _, _, k + 1 + (n - k), by omega, by go_num, rfl, by rw [INS.out]; simp [HNL.out]; omega, by rw [INS.out, cellsS_append, cellsS, ← List.append_assoc]; exact A3.out, keptFF KK.out K5.out⟩
      refine AllReadyH.cons opAt9 (fun K hK => ?_) AllReadyH.nil
      go_simp
      have hn := World.news_of_block (heap_alloc_new V1 (.cells #[.int .i64 y.tr, .int .i64 y.id, .int .i64 y.pa, .string y.se, .string y.ho, .int .i64 y.st, .int .i64 y.du, .string y.no] 37))
      have hk := (Kept.refl (fun _ => False) V1).alloc (.cells #[.int .i64 y.tr, .int .i64 y.id, .int .i64 y.pa, .string y.se, .string y.ho, .int .i64 y.st, .int .i64 y.du, .string y.no] 37)
      have ge := K1.out.size
      have lt_ : V1.heap.size < (V1.alloc (.cells #[.int .i64 y.tr, .int .i64 y.id, .int .i64 y.pa, .string y.se, .string y.ho, .int .i64 y.st, .int .i64 y.du, .string y.no] 37)).heap.size := by simp
      generalize hV : V1.alloc (.cells #[.int .i64 y.tr, .int .i64 y.id, .int .i64 y.pa, .string y.se, .string y.ho, .int .i64 y.st, .int .i64 y.du, .string y.no] 37) = V2 at hn hk lt_ ⊢
      generalize he : V1.heap.size = sb at hn ge lt_ ⊢
      have SG := Lib.hid (show ∀ j u, y.cells[j]? = some u → _ from fun j u hu => hn j u hu)
      have SLT := Lib.hid lt_
      have K2 := Lib.hid (keptFF K1.out hk)
      have E := Lib.hid (own_keptS E.out hk (fun _ _ f => f))
      have SNE := Lib.hid (show sb ≠ e0 from by have h1 := ELT.out; omega)
      clear hn hk ge lt_ hV he
      refine hK.out _ _ ?_ (fun hHeld => ?_)
      ·exact fun j u hu => K2.out.cell (ry j u hu) (fun f => f)
      clear hK K
      (try simp only [Act.put]); try simp only [z2, List.set]
      refine wpAnyH_ready (rs := [4]) (by kernel_rfl) (by simp) ?_
      refine AllReadyH.cons opAt4 (fun K hK => ?_) AllReadyH.nil
      refine step_appG (by rfl) _ _ 27 (by rfl) b0 37 i24 _ 8 88 Try.underlying27 hi24 z24 s24 b24 (by rfl) (by decide) _ 0 [] (by rfl) E.out k (cellsS (R.take k)) X1 (by rfl) (SRC1.out.kept K2.out) (by rw [cellsS_length, List.length_take, Nat.min_eq_left (by rw [HNL.out]; omega)]) (cellsS_one _) (by unfold maxLen; omega) (by omega) (Nat.le_trans B0.out K2.out.size) ?_
      intro ao1 cap1 V3 hown hk hat
      rw [Nat.zero_add, List.nil_append] at hown
      rw [Nat.zero_add] at hat ⊢
      have A1 := Lib.hid hown
      have A1L := Lib.hid (show ∀ q, (Value.slice ao1 k cap1).ownBlock = some q → q < V3.heap.size from fun q hq => (own_lt hown hq).2)
      have A1G := Lib.hid (show ∀ q, (Value.slice ao1 k cap1).ownBlock = some q → wr.heap.size ≤ q from fun q hq => hat.elim (fun h => by rw [h] at hq; cases hq; exact EG.out) (fun h => by rw [h] at hq; cases hq; exact K2.out.size))
      have K3 := Lib.hid (K2.out.trans hk (fun _ _ f => f) (fun q h1 h2 => by cases h2; have h3 := EG.out; have h4 : e0 < wr.heap.size := h1; omega) : Kept (fun _ => False) wr V3)
      have SG := Lib.hid (show ∀ j u, y.cells[j]? = some u → V3.cell? ((⟨sb, 0, none⟩ : Addr).add j) = some u from fun j u hu => hk.cell (SG.out j u hu) (fun h => by cases h; have h3 := SNE.out; simp [add_mid] at h3))
      have SN1 := Lib.hid (show ∀ q, (Value.slice ao1 k cap1).ownBlock = some q → q ≠ sb from fun q hq => hat.elim (fun h => by rw [h] at hq; cases hq; exact fun e => SNE.out e.symm) (fun h => by rw [h] at hq; cases hq; have h1 := SLT.out; omega))
      clear hown hk hat
      refine hK.out _ _ ?_ (fun hHeld => ?_)
      ·exact fun j u hu => K3.out.cell (ry j u hu) (fun f => f)
      clear hK K
      (try simp only [Act.put]); try simp only [z2, List.set]
      refine wpAnyH_ready (rs := [10]) (by kernel_rfl) (by simp) ?_
      refine AllReadyH.cons opAt10 (fun K hK => ?_) AllReadyH.nil
      refine step_appG (by rfl) _ _ 27 (by rfl) b0 37 i24 _ 8 88 Try.underlying27 hi24 z24 s24 b24 (by rfl) (by decide) _ k _ (by rfl) A1.out 1 y.cells (.slice (some ⟨sb, 0, none⟩) 1 1) (by rfl) ⟨_, _, rfl, .inr ⟨⟨sb, 0, none⟩, rfl, SG.out⟩⟩ (by rfl) (fun u hu => by simp [Spn.cells] at hu; rcases hu with rfl | rfl | rfl | rfl | rfl | rfl | rfl | rfl <;> rfl) (by unfold maxLen; omega) (by omega) (Nat.le_trans B0.out K3.out.size) ?_
      intro ao2 cap2 V4 hown hk hat
      have A2 := Lib.hid hown
      have A2G := Lib.hid (show ∀ q, (Value.slice ao2 (k + 1) cap2).ownBlock = some q → wr.heap.size ≤ q from fun q hq => hat.elim (fun h => by rw [h] at hq; exact A1G.out q hq) (fun h => by rw [h] at hq; cases hq; exact K3.out.size))
      have K4 := Lib.hid (K3.out.trans hk (fun _ _ f => f) (fun q h1 h2 => by have h3 := A1G.out q h2; omega) : Kept (fun _ => False) wr V4)
      clear hown hk hat
      refine hK.out _ _ ?_ (fun hHeld => ?_)
      ·exact fun j u hu => K4.out.cell (ry j u hu) (fun f => f)
      clear hK K
      (try simp only [Act.put]); try simp only [z2, List.set]
      refine wpAnyH_ready (rs := [14]) (by kernel_rfl) (by simp) ?_
      refine AllReadyH.cons opAt14 (fun K hK => ?_) AllReadyH.nil
      refine step_appG (by rfl) _ _ 27 (by rfl) b0 37 i24 _ 8 88 Try.underlying27 hi24 z24 s24 b24 (by rfl) (by decide) _ (k + 1) _ (by rfl) A2.out (n - k) (cellsS (R.drop k)) X2 (by rfl) (SRC2.out.kept K4.out) (by rw [cellsS_length, List.length_drop, HNL.out]) (cellsS_one _) (by unfold maxLen; omega) (by omega) (Nat.le_trans B0.out K4.out.size) ?_
      intro ao3 cap3 V5 hown hk hat
      have A3 := Lib.hid hown
      have K5 := Lib.hid (K4.out.trans hk (fun _ _ f => f) (fun q h1 h2 => by have h3 := A2G.out q h2; omega) : Kept (fun _ => False) wr V5)
      clear hown hk hat
      refine hK.out _ _ ?_ (fun hHeld => ?_)
      ·exact fun j u hu => K5.out.cell (ry j u hu) (fun f => f)
      clear hK K
      (try simp only [Act.put]); try simp only [z2, List.set]
      refine tW 15 opAt15 hHeld ?_
      (try simp only [Act.put]); try simp only [z2, List.set]
      refine wpAnyH_done (by kernel_rfl) ?_ _
      go_wp2
      go_roundg (m - (i + 1))
      case measure => have := G1.out; omega
      case rel => exact ⟨i + 1, _, _, k + 1 + (n - k), by omega, by go_num, rfl, by rw [INS.out]; simp [HNL.out]; omega, by rw [INS.out, cellsS_append, cellsS, ← List.append_assoc]; exact A3.out, keptFF KK.out K5.out⟩
     refine AllReadyH.cons opAt9 (fun K hK => ?_) AllReadyH.nil
     go_simp
     have hn := World.news_of_block (heap_alloc_new V0 (.cells #[.int .i64 y.tr, .int .i64 y.id, .int .i64 y.pa, .string y.se, .string y.ho, .int .i64 y.st, .int .i64 y.du, .string y.no] 37))
     have hk := (Kept.refl (fun _ => False) V0).alloc (.cells #[.int .i64 y.tr, .int .i64 y.id, .int .i64 y.pa, .string y.se, .string y.ho, .int .i64 y.st, .int .i64 y.du, .string y.no] 37)
     have ge := K0.out.size
     have lt_ : V0.heap.size < (V0.alloc (.cells #[.int .i64 y.tr, .int .i64 y.id, .int .i64 y.pa, .string y.se, .string y.ho, .int .i64 y.st, .int .i64 y.du, .string y.no] 37)).heap.size := by simp
     generalize hV : V0.alloc (.cells #[.int .i64 y.tr, .int .i64 y.id, .int .i64 y.pa, .string y.se, .string y.ho, .int .i64 y.st, .int .i64 y.du, .string y.no] 37) = V1 at hn hk lt_ ⊢
     generalize he : V0.heap.size = sb at hn ge lt_ ⊢
     have SG := Lib.hid (show ∀ j u, y.cells[j]? = some u → _ from fun j u hu => hn j u hu)
     have SLT := Lib.hid lt_
     have K1 := Lib.hid (keptFF K0.out hk)
     clear hn hk ge lt_ hV he
     refine hK.out _ _ ?_ (fun hHeld => ?_)
     ·exact fun j u hu => K1.out.cell (ry j u hu) (fun f => f)
     clear hK K
     (try simp only [Act.put]); try simp only [z2, List.set]
     refine wpAnyH_ready (rs := [0]) (by kernel_rfl) (by simp) ?_
     refine AllReadyH.cons opAt0 (fun K hK => ?_) AllReadyH.nil
     go_simp
     have ho := World.ownsRow_made V1 #[] 0 (Nat.le_trans B0.out K1.out.size) (by unfold maxLen; omega) (by rfl) (e := 37) (size := 8) (base := b0)
     have hk := (Kept.refl (fun _ => False) V1).alloc (.cells #[] 37)
     have ge := K1.out.size
     have lt_ : V1.heap.size < (V1.alloc (.cells #[] 37)).heap.size := by simp
     have SNEp := Lib.hid (show sb ≠ V1.heap.size from by have h1 := SLT.out; omega)
     generalize hV : V1.alloc (.cells #[] 37) = V2 at ho hk lt_ ⊢
     generalize he : V1.heap.size = e0 at ho ge lt_ SNEp ⊢
     have E := Lib.hid ho
     have EG := Lib.hid ge
     have ELT := Lib.hid lt_
     have K2 := Lib.hid (keptFF K1.out hk)
     have SG := Lib.hid (show ∀ j u, y.cells[j]? = some u → V2.cell? ((⟨sb, 0, none⟩ : Addr).add j) = some u from fun j u hu => hk.cell (SG.out j u hu) (fun f => f))
     have SNE := SNEp
     have SLT := Lib.hid (show sb < V2.heap.size from by have h1 := SLT.out; have h2 := hk.size; omega)
     clear ho hk ge lt_ hV he
     refine hK.out _ _ ?_ (fun hHeld => ?_)
     ·exact fun j u hu => K2.out.cell (ry j u hu) (fun f => f)
     clear hK K
     (try simp only [Act.put]); try simp only [z2, List.set]
     refine wpAnyH_ready (rs := [4]) (by kernel_rfl) (by simp) ?_
     refine AllReadyH.cons opAt4 (fun K hK => ?_) AllReadyH.nil
     refine step_appG (by rfl) _ _ 27 (by rfl) b0 37 i24 _ 8 88 Try.underlying27 hi24 z24 s24 b24 (by rfl) (by decide) _ 0 [] (by rfl) E.out k (cellsS (R.take k)) X1 (by rfl) (SRC1.out.kept K2.out) (by rw [cellsS_length, List.length_take, Nat.min_eq_left (by rw [HNL.out]; omega)]) (cellsS_one _) (by unfold maxLen; omega) (by omega) (Nat.le_trans B0.out K2.out.size) ?_
     intro ao1 cap1 V3 hown hk hat
     rw [Nat.zero_add, List.nil_append] at hown
     rw [Nat.zero_add] at hat ⊢
     have A1 := Lib.hid hown
     have A1L := Lib.hid (show ∀ q, (Value.slice ao1 k cap1).ownBlock = some q → q < V3.heap.size from fun q hq => (own_lt hown hq).2)
     have A1G := Lib.hid (show ∀ q, (Value.slice ao1 k cap1).ownBlock = some q → wr.heap.size ≤ q from fun q hq => hat.elim (fun h => by rw [h] at hq; cases hq; exact EG.out) (fun h => by rw [h] at hq; cases hq; exact K2.out.size))
     have K3 := Lib.hid (K2.out.trans hk (fun _ _ f => f) (fun q h1 h2 => by cases h2; have h3 := EG.out; have h4 : e0 < wr.heap.size := h1; omega) : Kept (fun _ => False) wr V3)
     have SG := Lib.hid (show ∀ j u, y.cells[j]? = some u → V3.cell? ((⟨sb, 0, none⟩ : Addr).add j) = some u from fun j u hu => hk.cell (SG.out j u hu) (fun h => by cases h; have h3 := SNE.out; simp [add_mid] at h3))
     have SN1 := Lib.hid (show ∀ q, (Value.slice ao1 k cap1).ownBlock = some q → q ≠ sb from fun q hq => hat.elim (fun h => by rw [h] at hq; cases hq; exact fun e => SNE.out e.symm) (fun h => by rw [h] at hq; cases hq; have h1 := SLT.out; omega))
     clear hown hk hat
     refine hK.out _ _ ?_ (fun hHeld => ?_)
     ·exact fun j u hu => K3.out.cell (ry j u hu) (fun f => f)
     clear hK K
     (try simp only [Act.put]); try simp only [z2, List.set]
     refine wpAnyH_ready (rs := [10]) (by kernel_rfl) (by simp) ?_
     refine AllReadyH.cons opAt10 (fun K hK => ?_) AllReadyH.nil
     refine step_appG (by rfl) _ _ 27 (by rfl) b0 37 i24 _ 8 88 Try.underlying27 hi24 z24 s24 b24 (by rfl) (by decide) _ k _ (by rfl) A1.out 1 y.cells (.slice (some ⟨sb, 0, none⟩) 1 1) (by rfl) ⟨_, _, rfl, .inr ⟨⟨sb, 0, none⟩, rfl, SG.out⟩⟩ (by rfl) (fun u hu => by simp [Spn.cells] at hu; rcases hu with rfl | rfl | rfl | rfl | rfl | rfl | rfl | rfl <;> rfl) (by unfold maxLen; omega) (by omega) (Nat.le_trans B0.out K3.out.size) ?_
     intro ao2 cap2 V4 hown hk hat
     have A2 := Lib.hid hown
     have A2G := Lib.hid (show ∀ q, (Value.slice ao2 (k + 1) cap2).ownBlock = some q → wr.heap.size ≤ q from fun q hq => hat.elim (fun h => by rw [h] at hq; exact A1G.out q hq) (fun h => by rw [h] at hq; cases hq; exact K3.out.size))
     have K4 := Lib.hid (K3.out.trans hk (fun _ _ f => f) (fun q h1 h2 => by have h3 := A1G.out q h2; omega) : Kept (fun _ => False) wr V4)
     clear hown hk hat
     refine hK.out _ _ ?_ (fun hHeld => ?_)
     ·exact fun j u hu => K4.out.cell (ry j u hu) (fun f => f)
     clear hK K
     (try simp only [Act.put]); try simp only [z2, List.set]
     refine wpAnyH_ready (rs := [14]) (by kernel_rfl) (by simp) ?_
     refine AllReadyH.cons opAt14 (fun K hK => ?_) AllReadyH.nil
     refine step_appG (by rfl) _ _ 27 (by rfl) b0 37 i24 _ 8 88 Try.underlying27 hi24 z24 s24 b24 (by rfl) (by decide) _ (k + 1) _ (by rfl) A2.out (n - k) (cellsS (R.drop k)) X2 (by rfl) (SRC2.out.kept K4.out) (by rw [cellsS_length, List.length_drop, HNL.out]) (cellsS_one _) (by unfold maxLen; omega) (by omega) (Nat.le_trans B0.out K4.out.size) ?_
     intro ao3 cap3 V5 hown hk hat
     have A3 := Lib.hid hown
     have K5 := Lib.hid (K4.out.trans hk (fun _ _ f => f) (fun q h1 h2 => by have h3 := A2G.out q h2; omega) : Kept (fun _ => False) wr V5)
     clear hown hk hat
     refine hK.out _ _ ?_ (fun hHeld => ?_)
     ·exact fun j u hu => K5.out.cell (ry j u hu) (fun f => f)
     clear hK K
     (try simp only [Act.put]); try simp only [z2, List.set]
     refine tW 15 opAt15 hHeld ?_
     (try simp only [Act.put]); try simp only [z2, List.set]
     refine wpAnyH_done (by kernel_rfl) ?_ _
     go_wp2
     go_roundg (m - (i + 1))
     case measure => have := G1.out; omega
     case rel => exact ⟨i + 1, _, _, k + 1 + (n - k), by omega, by go_num, rfl, by rw [INS.out]; simp [HNL.out]; omega, by rw [INS.out, cellsS_append, cellsS, ← List.append_assoc]; exact A3.out, keptFF KK.out K5.out⟩
  ·have i0 : ¬ (i : Int) < (m : Int) := by omega
   go_wp2
   go_ret
   have E1 : i = m := by have := G1.out; omega
   have hc : cntN L i = cntF L := by rw [cntF, HM.out, E1]
   refine ⟨.slice la n cap, rfl, ?_, KKr.out⟩
   rw [← hc]
   rcases row_form ROWr.out with ⟨q1, q2⟩ | ⟨g, c, q1, _, _, _, hc⟩
   ·exact ⟨la, cap, by rw [HNLr.out], .inl (List.eq_nil_of_length_eq_zero (by rw [HNLr.out]; exact q2))⟩
   ·cases q1
    exact ⟨_, cap, by rw [HNLr.out], .inr ⟨g, 0, rfl, fun j u hu => by rw [Nat.zero_add]; exact hc j u hu⟩⟩
end Go.Proofs.Ytibakmchgppndaa
/- spoorref14.parent, head. -/
namespace Go.Proofs.Ytibakmchgppndaa
open Go.RowKit

set_option maxHeartbeats 4000000 in
set_option maxRecDepth 100000 in
theorem rparent_any (w : World) (v : Value) (R : List Spn) (i : Nat) (h : ReadsS w v R) (hl : R.length ≤ 1000) (hr : Rise R) (hi : i < R.length) :
  Calls Try.prog 76 #[v, .int .i64 i] w fun e w' => e = .returned (.int .i64 (pInt (pF R i))) ∧ Kept (fun _ => False) w w' := by
 obtain ⟨ao, cap, rfl, rd⟩ := h
 obtain ⟨g, o, rfl, hc⟩ : ∃ g o, ao = some ⟨g, o, none⟩ ∧ ∀ j u, (cellsS R)[j]? = some u → w.cell? ⟨g, o + j, none⟩ = some u := by
  rcases rd with h | h
  ·subst h; simp at hi
  ·exact h
 obtain ⟨n, hn⟩ : ∃ n, R.length = n := ⟨_, rfl⟩
 obtain ⟨y, hy⟩ : ∃ y, nth R i = y := ⟨_, rfl⟩
 have gy := nth_get hi
 rw [hy] at gy
 have CS := Lib.hid (ReadsS.at hc gy).2.2.1
 have cs0 := (ReadsS.at hc gy).2.2.1
 rw [hn] at hl hi ⊢
 have i0 : (0 : Int) ≤ (i : Int) := by omega
 have i1 : (i : Int) < (n : Int) := by omega
 have HN := Lib.hid hn; have HY := Lib.hid hy; have HC := Lib.hid hc; have RI := Lib.hid hr
 clear rd hn hy gy hc hr
 by_cases hz : y.pa = 0
 ·have z1 : (y.pa == 0) = true := by simp [hz]
  have PP := Lib.hid (show pF R i = none from by rw [pF, HY.out, hz]; rfl)
  clear hz
  go_enter Try.func76, Try.ntmps76
  go_wp2
  go_ret
  exact ⟨by rw [PP.out]; rfl, Kept.refl _ _⟩
 ·have z1 : (y.pa == 0) = false := by simp [hz]
  have HZ := Lib.hid hz
  clear hz
  go_enter Try.func76, Try.ntmps76
  go_wp2
  clear cs0
  go_loopg [5] n (fun ghv s wr => ∃ (k : Nat), k + ghv = n ∧ s = .int .i64 k ∧ (∀ t, t < k → (nth R t).id ≠ y.pa) ∧ Kept (fun _ => False) w wr)
  case atStart => exact ⟨0, by omega, by go_num, fun t h => by omega, Kept.refl _ _⟩
  case round =>
   obtain ⟨k, hg1, rfl, hno, hk⟩ := hrel
   have G1 := Lib.hid hg1; have NO := Lib.hid hno; have KK := Lib.hid hk
   clear hg1 hno hk
   by_cases hkn : k < n
   ·have k0 : (k : Int) < (n : Int) := by omega
    have k1 : (0 : Int) ≤ (k : Int) := by omega
    have e1 : IntKind.i64.wrap ((k : Int) + 1) = ((k + 1 : Nat) : Int) := IntWalk.i64_in _ (by omega)
    have cs := KK.out.cell CS.out (fun f => f)
    obtain ⟨x, hx⟩ : ∃ x, nth R k = x := ⟨_, rfl⟩
    have gx := nth_get (l := R) (k := k) (by rw [HN.out]; exact hkn)
    rw [hx] at gx
    have cl := KK.out.cell (ReadsS.at HC.out gx).2.1 (fun f => f)
    have HX := Lib.hid hx
    clear hx gx
    by_cases hid : x.id = y.pa
    ·have d1 : (x.id == y.pa) = true := by simp [hid]
     have PP := Lib.hid (show pF R i = some k from by rw [pF, HY.out]; exact plF_some RI.out HZ.out (by rw [HN.out]; exact hkn) (by rw [HX.out]; exact hid))
     clear hid
     go_wp2
     refine wp_region_held_drew (S := (fun w' => w'.cell? ⟨g, o + k * 8 + 1, none⟩ = some (.int .i64 x.id) ∧ w'.cell? ⟨g, o + i * 8 + 2, none⟩ = some (.int .i64 y.pa))) (by kernel_rfl) ?_ (fun hHeld => ?_)
     ·exact ⟨cl, cs⟩
     refine tW 0 opAt0 hHeld ?_
     (try simp only [Act.put]); try simp only [z2, List.set]
     refine tW 1 opAt1 hHeld ?_
     (try simp only [Act.put]); try simp only [z2, List.set]
     refine tW 2 opAt2 hHeld ?_
     (try simp only [Act.put]); try simp only [z2, List.set]
     refine tW 3 opAt3 hHeld ?_
     (try simp only [Act.put]); try simp only [z2, List.set]
     refine tW 4 opAt4 hHeld ?_
     (try simp only [Act.put]); try simp only [z2, List.set]
     refine tW 5 opAt5 hHeld ?_
     (try simp only [Act.put]); try simp only [z2, List.set]
     refine tW 6 opAt6 hHeld ?_
     (try simp only [Act.put]); try simp only [z2, List.set]
     refine tW 7 opAt7 hHeld ?_
     (try simp only [Act.put]); try simp only [z2, List.set]
     refine tW 8 opAt8 hHeld ?_
     (try simp only [Act.put]); try simp only [z2, List.set]
     refine tW 9 opAt9 hHeld ?_
     (try simp only [Act.put]); try simp only [z2, List.set]
     refine tW 10 opAt10 hHeld ?_
     (try simp only [Act.put]); try simp only [z2, List.set]
     refine wpAnyH_done (by kernel_rfl) ?_ _
     go_wp2
     go_ret
     exact ⟨by rw [PP.out]; rfl, KK.out.drew⟩
    ·have d1 : (x.id == y.pa) = false := by simp [hid]
     have HID := Lib.hid hid
     clear hid
     go_wp2
     refine wp_region_held_drew (S := (fun w' => w'.cell? ⟨g, o + k * 8 + 1, none⟩ = some (.int .i64 x.id) ∧ w'.cell? ⟨g, o + i * 8 + 2, none⟩ = some (.int .i64 y.pa))) (by kernel_rfl) ?_ (fun hHeld => ?_)
     ·exact ⟨cl, cs⟩
     refine tW 0 opAt0 hHeld ?_
     (try simp only [Act.put]); try simp only [z2, List.set]
     refine tW 1 opAt1 hHeld ?_
     (try simp only [Act.put]); try simp only [z2, List.set]
     refine tW 2 opAt2 hHeld ?_
     (try simp only [Act.put]); try simp only [z2, List.set]
     refine tW 3 opAt3 hHeld ?_
     (try simp only [Act.put]); try simp only [z2, List.set]
     refine tW 4 opAt4 hHeld ?_
     (try simp only [Act.put]); try simp only [z2, List.set]
     refine tW 5 opAt5 hHeld ?_
     (try simp only [Act.put]); try simp only [z2, List.set]
     refine tW 6 opAt6 hHeld ?_
     (try simp only [Act.put]); try simp only [z2, List.set]
     refine tW 7 opAt7 hHeld ?_
     (try simp only [Act.put]); try simp only [z2, List.set]
     refine tW 8 opAt8 hHeld ?_
     (try simp only [Act.put]); try simp only [z2, List.set]
     refine tW 9 opAt9 hHeld ?_
     (try simp only [Act.put]); try simp only [z2, List.set]
     refine tW 10 opAt10 hHeld ?_
     (try simp only [Act.put]); try simp only [z2, List.set]
     refine wpAnyH_done (by kernel_rfl) ?_ _
     go_wp2
     go_roundg (n - (k + 1))
     case measure => have := G1.out; omega
     case rel => exact ⟨k + 1, by omega, by go_num, fun t ht => by
      by_cases c : t = k
      ·subst c; rw [HX.out]; exact HID.out
      ·exact NO.out t (by omega), KK.out.drew⟩
   ·have k0 : ¬ (k : Int) < (n : Int) := by omega
    have PP := Lib.hid (show pF R i = none from by rw [pF, HY.out]; exact plF_none (fun t ht => NO.out t (by rw [HN.out] at ht; omega)))
    go_wp2
    go_ret
    exact ⟨by rw [PP.out]; rfl, KK.out⟩
/-- Back at itself, and all between are greater: the least of a cycle. -/
theorem least_of {p : Nat → Option Nat} {c i : Nat} (h0 : 0 < c) (h : it p c i = some i) (hb : ∀ s y, s < c → 0 < s → it p s i = some y → i < y) : Least p i := by
 refine ⟨⟨c, h0, h⟩, fun s => ?_⟩
 induction s using Nat.strongRecOn with
 | _ s ih =>
  intro y hy
  by_cases hs : s < c
  ·by_cases z : s = 0
   ·subst z; simp [it] at hy; omega
   ·have := hb s y hs (by omega) hy; omega
  ·refine ih (s - c) (by omega) y ?_
   rw [← it_add' h, show c + (s - c) = s by omega]; exact hy
theorem hdF_least {R : List Spn} {i k : Nat} (h : pF R i = some k) : hdF R i = true ↔ Least (pF R) i := by
 rw [hdF_iff]
 refine ⟨fun h2 => h2.elim (fun l => ?_) id, .inr⟩
 rw [lostF_none l] at h; cases h
theorem hdF_none {R : List Spn} {i : Nat} (h : pF R i = none) : hdF R i = ((nth R i).pa != 0) := by
 have hl : lostF R i = ((nth R i).pa != 0) := by simp [lostF, h, pInt]
 rw [Bool.eq_iff_iff, hdF_iff, hl]
 refine ⟨fun h2 => h2.elim id (fun l => ?_), .inl⟩
 obtain ⟨y, hy⟩ := cyc_some l.1 1
 simp [it, h] at hy
theorem hdF_false {R : List Spn} {i k : Nat} (h : pF R i = some k) (hn : ¬ Least (pF R) i) : hdF R i = false := by
 cases e : hdF R i with
 | false => rfl
 | true => exact absurd ((hdF_least h).1 e) hn

set_option maxHeartbeats 4000000 in
set_option maxRecDepth 100000 in
theorem rhead_any (w : World) (v : Value) (R : List Spn) (i : Nat) (h : ReadsS w v R) (hl : R.length ≤ 1000) (hr : Rise R) (hi : i < R.length) :
  Calls Try.prog 58 #[v, .int .i64 i] w fun e w' => e = .returned (.bool (hdF R i)) ∧ Kept (fun _ => False) w w' := by
 have RD := Lib.hid h; have RI := Lib.hid hr
 obtain ⟨ao, cap, rfl, rd⟩ := h
 obtain ⟨g, o, rfl, hc⟩ : ∃ g o, ao = some ⟨g, o, none⟩ ∧ ∀ j u, (cellsS R)[j]? = some u → w.cell? ⟨g, o + j, none⟩ = some u := by
  rcases rd with h | h
  ·subst h; simp at hi
  ·exact h
 obtain ⟨n, hn⟩ : ∃ n, R.length = n := ⟨_, rfl⟩
 obtain ⟨y, hy⟩ : ∃ y, nth R i = y := ⟨_, rfl⟩
 have gy := nth_get hi
 rw [hy] at gy
 have CS := Lib.hid (ReadsS.at hc gy).2.2.1
 have HL := Lib.hid hl; have HI := Lib.hid hi
 rw [hn] at hl hi RD ⊢
 have i0 : (0 : Int) ≤ (i : Int) := by omega
 have i1 : (i : Int) < (n : Int) := by omega
 have HN := Lib.hid hn; have HY := Lib.hid hy
 clear rd hn hy gy hc hr
 go_enter Try.func58, Try.ntmps58
 go_wp2_with fail
 refine (rparent_any w _ R i RD.out HL.out RI.out HI.out).mono ?_
 rintro e w1 ⟨rfl, k1⟩
 have K1 := Lib.hid k1
 clear k1
 cases hp : pF R i with
 | none =>
  have HP := Lib.hid (hdF_none hp)
  have cs := K1.out.cell CS.out (fun f => f)
  clear hp
  simp only [pInt]
  go_wp2
  go_ret
  exact ⟨by rw [HP.out, HY.out]; rfl, K1.out⟩
 | some q =>
  have HP := Lib.hid hp
  have HQ := Lib.hid (pF_lt hp)
  clear hp
  have q0 : ¬ (q : Int) < 0 := by omega
  have dq : decide ((q : Int) < 0) = false := by simp
  simp only [pInt]
  go_wp2
  go_loopg [5, 6] n (fun ghv s5 s6 wr => ∃ (m : Nat), m + ghv = n ∧ s6 = .int .i64 m ∧ s5 = .int .i64 (pInt (it (pF R) (m + 1) i)) ∧ (∀ s y, s < m + 1 → 0 < s → it (pF R) s i = some y → i < y) ∧ Kept (fun _ => False) w wr)
  case atStart => exact ⟨0, by omega, by go_num, by simp [it, HP.out, pInt], fun s y h1 h2 => by omega, K1.out⟩
  case round =>
   obtain ⟨m, hg1, rfl, rfl, hb, hk⟩ := hrel
   have G1 := Lib.hid hg1; have HB := Lib.hid hb; have KK := Lib.hid hk
   clear hg1 hb hk
   by_cases hmn : m < n
   ·have m0 : (m : Int) < (n : Int) := by omega
    have e1 : IntKind.i64.wrap ((m : Int) + 1) = ((m + 1 : Nat) : Int) := IntWalk.i64_in _ (by omega)
    cases hk : it (pF R) (m + 1) i with
    | none =>
     have FF := Lib.hid (show hdF R i = false from hdF_false HP.out (fun l => by obtain ⟨y, hy⟩ := cyc_some l.1 (m + 1); rw [hk] at hy; cases hy))
     clear hk
     simp only [pInt]
     have d0 : ((-1 : Int) == (i : Int)) = false := by simp
     go_wp2
     go_ret
     exact ⟨by rw [FF.out]; rfl, KK.out⟩
    | some k =>
     have HK := Lib.hid hk
     have HKL := Lib.hid (show k < R.length from it_lt (fun _ _ _ h => pF_lt h) HI.out hk)
     clear hk
     simp only [pInt]
     by_cases c : k = i
     ·obtain rfl := c
      have TT := Lib.hid (show hdF R k = true from (hdF_least HP.out).2 (least_of (c := m + 1) (by omega) HK.out HB.out))
      have d0 : ((k : Int) == (k : Int)) = true := by simp
      go_wp2
      go_ret
      exact ⟨by rw [TT.out]; rfl, KK.out⟩
     ·have d0 : ((k : Int) == (i : Int)) = false := by simp; omega
      have HC := Lib.hid c
      clear c
      have k0 : ¬ (k : Int) < 0 := by omega
      have dk : decide ((k : Int) < 0) = false := by simp
      by_cases hki : k < i
      ·have d1 : decide ((k : Int) < (i : Int)) = true := by simp [hki]
       have FF := Lib.hid (show hdF R i = false from hdF_false HP.out (fun l => by have := l.2 _ _ HK.out; omega))
       go_wp2
       go_ret
       exact ⟨by rw [FF.out]; rfl, KK.out⟩
      ·have d1 : decide ((k : Int) < (i : Int)) = false := by simp; omega
       go_wp2_with fail
       refine (rparent_any wr _ R k (RD.out.keptF KK.out) HL.out RI.out HKL.out).mono ?_
       rintro e w5 ⟨rfl, k5⟩
       have K5 := Lib.hid (keptFF KK.out k5)
       clear k5
       go_wp2
       go_roundg (n - (m + 1))
       case measure => have := G1.out; omega
       case rel => exact ⟨m + 1, by omega, by go_num, by rw [it, HK.out]; rfl, fun s y h1 h2 hy => by
        by_cases c : s = m + 1
        ·subst c; rw [HK.out] at hy; cases hy; have := HC.out; omega
        ·exact HB.out s y (by omega) h2 hy, K5.out⟩
   ·have m0 : ¬ (m : Int) < (n : Int) := by omega
    have FF := Lib.hid (show hdF R i = false from hdF_false HP.out (fun l => by
     obtain ⟨c, c0, c1, c2⟩ := cyc_short (fun _ _ _ h => pF_lt h) HI.out l.1
     have := HB.out c i (by rw [HN.out] at c1; omega) c0 c2
     omega))
    go_wp2
    go_ret
    exact ⟨by rw [FF.out]; rfl, KK.out⟩
end Go.Proofs.Ytibakmchgppndaa
/- spoorref14.node. -/
namespace Go.Proofs.Ytibakmchgppndaa
open Go.RowKit

theorem kidF_ne {R : List Spn} {k i : Nat} (h : pF R k ≠ some i) : kidF R (k + 1) i = kidF R k i := by
 rw [kidF_snoc, if_neg, List.append_nil]
 exact fun a => h a.1
theorem pInt_eq {q : Option Nat} {i : Nat} (h : q ≠ some i) : (pInt q == (i : Int)) = false := by
 cases q with
 | none => simp [pInt]
 | some k => simp only [pInt, beq_eq_false_iff_ne, ne_eq]; exact fun e => h (by rw [Int.ofNat_inj.1 e])

set_option maxHeartbeats 8000000 in
set_option maxRecDepth 100000 in
theorem rnode_any (R : List Spn) (hl : R.length ≤ 1000) (hr : Rise R) : ∀ (d : Nat) (w : World) (v : Value) (i : Nat), Low R d i → i < R.length → ReadsS w v R →
  Calls Try.prog 59 #[v, .int .i64 i] w fun e w' => ∃ u, e = .returned (.agg ((nth R i).cells ++ [u]).toArray) ∧ ReadsF (fun k => w.heap.size ≤ k) w' u (subF R d i) ∧ Kept (fun _ => False) w w' := by
 intro d
 induction d with
 | zero => intro w v i h; exact h.elim
 | succ d ih =>
  intro w v i hlow hi hrd
  have RD := Lib.hid hrd
  have HL := Lib.hid hl
  obtain ⟨ao, cap, rfl, rd⟩ := hrd
  obtain ⟨g, o, rfl, hc⟩ : ∃ g o, ao = some ⟨g, o, none⟩ ∧ ∀ j u, (cellsS R)[j]? = some u → w.cell? ⟨g, o + j, none⟩ = some u := by
   rcases rd with h | h
   ·subst h; simp at hi
   ·exact h
  obtain ⟨y, hy⟩ : ∃ y, nth R i = y := ⟨_, rfl⟩
  have gy := nth_get hi
  rw [hy] at gy
  obtain ⟨e0, e1, e2, e3, e4, e5, e6, e7⟩ := ReadsS.at hc gy
  have b4 := World.block_lt_of_cell? _ _ e0
  obtain ⟨n, hn⟩ : ∃ n, R.length = n := ⟨_, rfl⟩
  rw [hn] at hi hl RD ⊢
  have i0 : (0 : Int) ≤ (i : Int) := by omega
  have i1 : (i : Int) < (n : Int) := by omega
  have HN := Lib.hid hn; have HY := Lib.hid hy
  have LW := Lib.hid (show ∀ k ∈ kidF R R.length i, Low R d k from hlow)
  clear hn hy gy hlow hc rd
  simp only at b4
  obtain ⟨i39, hi39, z39, s39, b39⟩ := info_parts inf39
  rw [HY.out]
  go_enter Try.func59, Try.ntmps59
  go_wp2
  refine wp_gen (fun W => Begun w W w.heap.size (y.cells ++ [Value.slice none 0 0])) (begun w (y.cells ++ [Value.slice none 0 0]) rfl) ?_
  intro W bg
  obtain ⟨rb, hrb⟩ : ∃ r, w.heap.size = r := ⟨_, rfl⟩
  rw [hrb] at bg ⊢
  have BG := Lib.hid bg
  clear bg hrb e0 e1 e2 e3 e4 e5 e6 e7 b4
  go_loopg [6] n (fun ghv s wr => ∃ (k : Nat) (kv : Value) (l : List NR) (A : Nat → Prop), k + ghv = n ∧ s = .int .i64 k ∧ wr.ownsRow (rb + 1) 93 9 (.slice (some ⟨rb + 1, 0, none⟩) 1 1) 1 (y.cells ++ [kv]) ∧ Grown (rb + 2) A wr kv l ∧ (∀ k, A k → k < wr.heap.size) ∧ l.length ≤ k ∧ frN l = forF (subF R d) R (kidF R k i) ∧ Kept (fun k => k = rb + 1) W wr)
  case atStart => exact ⟨0, .slice none 0 0, [], fun _ => False, by omega, by go_num, BG.out.x, Grown.nil _ _ _, fun _ f => f.elim, Nat.le_refl _, rfl, Kept.refl _ _⟩
  case round =>
   obtain ⟨k, kv, l, A, hg1, rfl, hxo, hgr, hA, hll, hfr, hk⟩ := hrel
   have G1 := Lib.hid hg1; have XOr := Lib.hid hxo; have GRr := Lib.hid hgr; have HAr := Lib.hid hA; have LL := Lib.hid hll; have FR := Lib.hid hfr; have KKr := Lib.hid hk
   clear hg1 hxo hgr hA hll hfr hk
   by_cases hkn : k < n
   ·have j0 : (k : Int) < (n : Int) := by omega
    have j1 : (0 : Int) ≤ (k : Int) := by omega
    have e1 : IntKind.i64.wrap ((k : Int) + 1) = ((k + 1 : Nat) : Int) := IntWalk.i64_in _ (by omega)
    have HKN := Lib.hid (show k < R.length from by rw [HN.out]; exact hkn)
    have KW := Lib.hid (BG.out.kept.trans KKr.out (fun _ _ h => h) (fun k h1 h2 => by have := BG.out.new; omega) : Kept (fun _ => False) w wr)
    by_cases hp : pF R k = some i
    ·have HP := Lib.hid hp
     have d1 : ((i : Int) == (i : Int)) = true := by simp
     clear hp
     go_wp2_with fail
     refine (rparent_any wr _ R k (RD.out.keptF KW.out) HL.out hr HKN.out).mono ?_
     rintro e w3 ⟨rfl, k3⟩
     rw [HP.out]
     simp only [pInt]
     have K3 := Lib.hid k3
     clear k3
     go_wp2_with fail
     refine (rhead_any w3 _ R k (RD.out.keptF (keptFF KW.out K3.out)) HL.out hr HKN.out).mono ?_
     rintro e w4 ⟨rfl, k4⟩
     have K4 := Lib.hid (keptFF K3.out k4)
     have XO := Lib.hid (own_keptS XOr.out K4.out (fun _ _ f => f))
     have GR := Lib.hid (GRr.out.keep K4.out (fun _ _ f => f.elim))
     have HA := Lib.hid (show ∀ k, A k → k < w4.heap.size from fun k h => by have h1 := HAr.out k h; have h2 := K4.out.size; omega)
     have KK := Lib.hid (KKr.out.trans K4.out (fun _ _ h => h) (fun _ _ f => f.elim) : Kept (fun k => k = rb + 1) W w4)
     clear k4
     cases hh : hdF R k with
     | true =>
      have HH := Lib.hid hh
      clear hh
      go_wp2
      go_roundg (n - (k + 1))
      case measure => have := G1.out; omega
      case rel => exact ⟨k + 1, kv, l, A, by omega, by go_num, XO.out, GR.out, HA.out, by have := LL.out; omega, by rw [kidF_skip (.inr HH.out)]; exact FR.out, KK.out⟩
     | false =>
      have HH := Lib.hid hh
      clear hh
      have RDW := Lib.hid (RD.out.keptF (keptFF KW.out K4.out))
      have HKM := Lib.hid (show k ∈ kidF R R.length i from mem_kidF.2 ⟨HKN.out, HP.out, HH.out⟩)
      obtain ⟨z, hz⟩ : ∃ z, nth R k = z := ⟨_, rfl⟩
      have HZ := Lib.hid hz
      clear hz
      have SS := Lib.hid (show ∀ w', Kept (fun _ => False) w4 w' → w'.cell? ⟨rb + 1, 8, none⟩ = some kv from fun w' k => k.cell (own_cellN XO.out (i := 8) rfl) (fun f => f))
      have hkvs : ∃ a' c', kv = .slice a' l.length c' := by
       rcases row_form GR.out.row with ⟨q1, q2⟩ | ⟨g', c', q1, _⟩
       ·exact ⟨none, 0, by rw [q1, q2]⟩
       ·exact ⟨_, _, q1⟩
      go_wp2
      refine wp_region_last 8 (fun w' => w'.cell? ⟨rb + 1, 8, none⟩ = some kv) (by kernel_rfl) ?_
      have k0 := (Kept.refl (fun _ => False) w4).drew
      have hHeld := SS.out _ k0
      simp only [List.size_toArray, List.length_cons, List.length_nil, Nat.zero_add, Nat.reduceAdd]
      refine tF (v := ?_) 0 opAt0 ?_ hHeld ?_
      case refine_2 => (intro w hSw; (try dsimp only at hSw); go_simp; all_goals (with_reducible rfl))
      (try simp only [Act.put]); try simp only [z2, List.set]
      refine tF (v := ?_) 1 opAt1 ?_ hHeld ?_
      case refine_2 => (intro w hSw; (try dsimp only at hSw); go_simp; all_goals (with_reducible rfl))
      (try simp only [Act.put]); try simp only [z2, List.set]
      refine tF (v := ?_) 2 opAt2 ?_ hHeld ?_
      case refine_2 => (intro w hSw; (try dsimp only at hSw); go_simp; all_goals (with_reducible rfl))
      (try simp only [Act.put]); try simp only [z2, List.set]
      refine tF (v := ?_) 3 opAt3 ?_ hHeld ?_
      case refine_2 => (intro w hSw; (try dsimp only at hSw); go_simp; all_goals (with_reducible rfl))
      (try simp only [Act.put]); try simp only [z2, List.set]
      refine next1 4 (by kernel_rfl) opAt4 fun K' hK => ?_
      go_simp
      go_at_call 59
      refine (ih _ _ k (LW.out k HKM.out) HKN.out (RDW.out.keptF k0)).mono ?_
      rintro e w5 ⟨v5, rfl, rv5, k5⟩
      obtain ⟨a5, c5, ev, _⟩ := id rv5
      obtain ⟨n5, hn5⟩ : ∃ n, (subF R d k).len = n := ⟨_, rfl⟩
      rw [hn5] at ev
      subst ev
      clear hn5
      rw [HZ.out, nodeVal]
      have K5 := Lib.hid (keptFF k0 k5)
      have RV := Lib.hid rv5
      clear k5 rv5
      dsimp only
      have hHeld := SS.out _ K5.out
      refine hK _ _ ⟨fun _ => hHeld, ?_⟩
      clear hK K'
      (try simp only [Act.put]); try simp only [z2, List.set]
      refine next1 5 (by kernel_rfl) opAt5 fun K' hK => ?_
      go_simp
      have hHeld := SS.out (w5.alloc (.cells (z.cells ++ [Value.slice a5 n5 c5]).toArray 93)) (K5.out.alloc _)
      refine hK _ _ ⟨fun _ => hHeld, ?_⟩
      clear hK K'
      (try simp only [Act.put]); try simp only [z2, List.set]
      refine next1 6 (by kernel_rfl) opAt6 fun K' hK => ?_
      refine step_app (by rfl) _ _ 58 (by rfl) (rb + 2) 93 i39 _ 9 112 Try.underlying58 hi39 z39 s39 b39 (by rfl) (by decide) kv l.length _ (by rfl) ((own_keptS GR.out.row K5.out (fun _ _ f => f)).alloc _) ⟨_, 0, none⟩ 1 1 (z.cells ++ [Value.slice a5 n5 c5]) (by rfl) (by rfl) ?_ ?_ ?_ ?_ ?_ ?_
      ·exact World.news_of_block (heap_alloc_new _ _)
      ·intro u hu; simp [Spn.cells] at hu; rcases hu with rfl | rfl | rfl | rfl | rfl | rfl | rfl | rfl | rfl <;> rfl
      ·have := LL.out; unfold maxLen; omega
      ·have := LL.out; omega
      ·have h1 := BG.out.size; have h2 := KK.out.size; have h3 := K5.out.size; simp; omega
      intro ao' cap' w6 hown hgr hat
      have KV := Lib.hid (((Kept.refl (fun _ => False) w5).alloc _).trans (grown_kept hgr) (fun _ _ f => f.elim) (fun _ _ h => h) : Kept (fun k => kv.ownBlock = some k) w5 w6)
      have HAT := Lib.hid (show (Value.slice ao' (l.length + 1) cap').ownBlock = kv.ownBlock ∨ ∃ b, (Value.slice ao' (l.length + 1) cap').ownBlock = some b ∧ w5.heap.size ≤ b from hat.imp id (fun e => ⟨_, e, by simp⟩))
      have GR2 := Lib.hid (GR.out.push HA.out (by have h1 := BG.out.size; have h2 := KK.out.size; omega) K5.out RV.out KV.out hown HAT.out)
      have SZ := Lib.hid (show ∀ k, (A k ∨ (Value.slice ao' (l.length + 1) cap').ownBlock = some k) → k < w6.heap.size from fun k hk => hk.elim (fun h => by have h1 := HA.out k h; have h2 := K5.out.size; have h3 := KV.out.size; omega) (fun h => (own_lt hown h).2))
      clear hown hgr hat
      have hHeld := (KV.out.cell (SS.out _ K5.out) (fun e => by have h1 := own_lt GR.out.row e; simp only at h1; omega) : w6.cell? ⟨rb + 1, 8, none⟩ = some kv)
      refine hK _ _ ⟨fun _ => hHeld, ?_⟩
      clear hK K'
      (try simp only [Act.put]); try simp only [z2, List.set]
      refine tF (v := ?_) 7 opAt7 ?_ hHeld ?_
      case refine_2 => (intro w hSw; (try dsimp only at hSw); go_simp; all_goals (with_reducible rfl))
      (try simp only [Act.put]); try simp only [z2, List.set]
      refine next1 8 (by kernel_rfl) opAt8 fun K' hK => ?_
      have XO6 := Lib.hid (own_keptS (own_keptS XO.out K5.out (fun _ _ f => f)) KV.out (fun b hb e => by have h1 := own_lt GR.out.row e; cases hb; simp only at h1; omega))
      refine step_store1 (by rfl) 58 _ _ (by rfl) (rb + 1) 8 (.slice ao' (l.length + 1) cap') (by rfl) (by rfl) (by rw [hHeld]; rfl) (XO6.out.frozenAt _) sz26 rfl rfl ?_
      intro W2 hW2
      have XO2 := Lib.hid (show W2.ownsRow (rb + 1) 93 9 (.slice (some ⟨rb + 1, 0, none⟩) 1 1) 1 (y.cells ++ [.slice ao' (l.length + 1) cap']) from by rw [hW2]; exact own_putN XO6.out 8 _)
      have KP := Lib.hid (show Kept (fun k => k = rb + 1) w6 W2 from by rw [hW2]; exact kept_put w6 (rb + 1) 8 _)
      have GR3 := Lib.hid (GR2.out.keep KP.out (fun k _ e => by omega))
      have KK2 := Lib.hid (((KK.out.trans K5.out (fun _ _ h => h) (fun _ _ f => f.elim) : Kept (fun k => k = rb + 1) W w5).trans KV.out (fun _ _ h => h) (fun k h1 h2 => by have h3 := own_lt GR.out.row h2; have h4 := BG.out.size; omega) : Kept (fun k => k = rb + 1) W w6).trans KP.out (fun _ _ h => h) (fun _ _ h => h) : Kept (fun k => k = rb + 1) W W2)
      clear hW2
      refine hK _ _ ⟨fun h => absurd rfl h, ?_⟩
      clear hK K'
      (try simp only [Act.put]); try simp only [z2, List.set]
      refine wpAnyF_done (by kernel_rfl) ?_ _
      go_wp2
      go_roundg (n - (k + 1))
      case measure => have := G1.out; omega
      case rel => exact ⟨k + 1, _, _, _, by omega, by go_num, XO2.out, GR3.out, fun k hk => by have h1 := SZ.out k hk; have h2 := KP.out.size; omega, by have := LL.out; simp; omega, by
       rw [frN_app, FR.out, kidF_here HP.out HH.out, forF_app]; simp only [frN, forF, HZ.out], KK2.out⟩
    ·have HP := Lib.hid hp
     obtain ⟨z, hz⟩ : ∃ z, pInt (pF R k) = z := ⟨_, rfl⟩
     have d1 : (z == (i : Int)) = false := by rw [← hz]; exact pInt_eq hp
     have HZ := Lib.hid hz
     clear hp hz
     go_wp2_with fail
     refine (rparent_any wr _ R k (RD.out.keptF KW.out) HL.out hr HKN.out).mono ?_
     rintro e w3 ⟨rfl, k3⟩
     rw [HZ.out]
     have K3 := Lib.hid k3
     clear k3
     go_wp2
     go_roundg (n - (k + 1))
     case measure => have := G1.out; omega
     case rel => exact ⟨k + 1, kv, l, A, by omega, by go_num, own_keptS XOr.out K3.out (fun _ _ f => f), GRr.out.keep K3.out (fun _ _ f => f.elim), fun k h => (by have h1 := HAr.out k h; have h2 := K3.out.size; omega), by have := LL.out; omega, by rw [kidF_ne HP.out]; exact FR.out, KKr.out.trans K3.out (fun _ _ h => h) (fun _ _ f => f.elim)⟩
   ·have j0 : ¬ (k : Int) < (n : Int) := by omega
    have E1 := Lib.hid (show k = n from by have := G1.out; omega)
    have KW := Lib.hid (BG.out.kept.trans KKr.out (fun _ _ h => h) (fun k h1 h2 => by have := BG.out.new; omega) : Kept (fun _ => False) w wr)
    have RO := Lib.hid (own_keptS BG.out.res KKr.out (fun b hb e => by cases hb; simp only at e; omega))
    obtain ⟨a1, c1, hkv⟩ : ∃ a' c', kv = .slice a' l.length c' := by
     rcases row_form GRr.out.row with ⟨q1, q2⟩ | ⟨g', c', q1, _⟩
     ·exact ⟨none, 0, by rw [q1, q2]⟩
     ·exact ⟨_, _, q1⟩
    obtain ⟨nl, hnl⟩ : ∃ n, l.length = n := ⟨_, rfl⟩
    rw [hnl] at hkv
    subst hkv
    clear hnl
    have x0 := own_cellN XOr.out (i := 0) rfl; have x1 := own_cellN XOr.out (i := 1) rfl; have x2 := own_cellN XOr.out (i := 2) rfl; have x3 := own_cellN XOr.out (i := 3) rfl
    have x4 := own_cellN XOr.out (i := 4) rfl; have x5 := own_cellN XOr.out (i := 5) rfl; have x6 := own_cellN XOr.out (i := 6) rfl; have x7 := own_cellN XOr.out (i := 7) rfl; have x8 := own_cellN XOr.out (i := 8) rfl
    go_wp2_with (refine wpList_store_letter (by rfl) 93 _ _ (by rfl) rb 0 (y.cells ++ [Value.slice a1 nl c1]).toArray (by rfl) (by rfl) (there9 RO.out) info39 (node_all y _ rfl) ?_; intro W2 hW2; have RO2 := Lib.hid (show W2.ownsRow rb 93 9 (.slice (some ⟨rb, 0, none⟩) 1 1) 1 (y.cells ++ [Value.slice a1 nl c1]) from by rw [hW2]; exact own_all9 RO.out _ rfl); have KP := Lib.hid (show Kept (fun k => k = rb) wr W2 from by rw [hW2]; exact Kept.setCells (S := fun k => k = rb) (fun _ => rfl) _ 0 (Kept.refl _ wr)); clear hW2 x0 x1 x2 x3 x4 x5 x6 x7 x8; have r0 := own_cellN RO2.out (i := 0) rfl; have r1 := own_cellN RO2.out (i := 1) rfl; have r2 := own_cellN RO2.out (i := 2) rfl; have r3 := own_cellN RO2.out (i := 3) rfl; have r4 := own_cellN RO2.out (i := 4) rfl; have r5 := own_cellN RO2.out (i := 5) rfl; have r6 := own_cellN RO2.out (i := 6) rfl; have r7 := own_cellN RO2.out (i := 7) rfl; have r8 := own_cellN RO2.out (i := 8) rfl)
    refine bodyPost_ret (v := .agg (y.cells ++ [Value.slice a1 nl c1]).toArray) (by simp [results, Try.results59, go_sem, r0, r1, r2, r3, r4, r5, r6, r7, r8]; try rfl) rfl ?_
    refine ⟨.slice a1 nl c1, rfl, ?_, KW.out.trans KP.out (fun _ _ h => h) (fun k h1 h2 => by have := BG.out.new; omega)⟩
    have hf : frN l = subF R (d + 1) i := by rw [FR.out, subF, HN.out, E1.out]
    rw [← hf]
    exact GRr.out.reads.keptS KP.out (fun k _ hs e => by omega) (fun k _ hs => by have := BG.out.new; omega)
end Go.Proofs.Ytibakmchgppndaa
