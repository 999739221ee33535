/- A part of the proof. -/
import Derived.Test.YtelhdbkkigehgaaGreatDoorZs7
import Derived.Test.YtelhdbkkigehgaaGreatDoorZs8
import Derived.Test.YtelhdbkkigehgaaGreatDoorZs11
import Derived.Test.YtelhdbkkigehgaaGreatDoorZs12

/- The desk's line of a step. -/
namespace Go.Proofs.YtelhdbkkigehgaaGreatDoor
open Go.RowKit Go.Instr Go.ChangeMaps

theorem ks_mem {e : MapEntry} (h : e ∈ (Ks.entsL 0 Ks.kindsL).toArray.toList) : ∃ name k c, (name, k, c) ∈ Ks.rows ∧ e.key = .string name ∧ e.val = .agg #[.int .i64 k, .int .i64 c] ∧ e.born < 17 := by
  obtain ⟨i, hi⟩ := List.mem_iff_getElem?.1 h
  simp only at hi
  rw [Ks.entsL_at] at hi
  have hl : Ks.kindsL.length = 17 := by decide
  cases hk : Ks.kindsL[i]? with
  | none => rw [hk] at hi; simp at hi
  | some p =>
    have hlt := (List.getElem?_eq_some_iff.1 hk).1
    rw [hk] at hi
    simp at hi
    subst hi
    unfold Ks.kindsL at hk
    rw [List.getElem?_map] at hk
    cases hr : Ks.rows[i]? with
    | none => rw [hr] at hk; simp at hk
    | some r =>
      rw [hr] at hk
      simp at hk
      subst hk
      exact ⟨r.1, r.2.1, r.2.2, List.mem_of_getElem? hr, rfl, rfl, by simp only; omega⟩
theorem ks_once : ((Ks.entsL 0 Ks.kindsL).toArray.toList.map (·.born)).Nodup := by decide
theorem row_name {name : ByteArray} {k c : Int} (h : (name, k, c) ∈ Ks.rows) : name.size ≤ 7 ∧ 1 ≤ k ∧ k ≤ 17 := by
  unfold Ks.rows at h
  simp only [List.mem_cons, Prod.mk.injEq, List.not_mem_nil, or_false] at h
  rcases h with ⟨rfl, rfl, _⟩ | ⟨rfl, rfl, _⟩ | ⟨rfl, rfl, _⟩ | ⟨rfl, rfl, _⟩ | ⟨rfl, rfl, _⟩ | ⟨rfl, rfl, _⟩ | ⟨rfl, rfl, _⟩ | ⟨rfl, rfl, _⟩ | ⟨rfl, rfl, _⟩ | ⟨rfl, rfl, _⟩ | ⟨rfl, rfl, _⟩ | ⟨rfl, rfl, _⟩ | ⟨rfl, rfl, _⟩ | ⟨rfl, rfl, _⟩ | ⟨rfl, rfl, _⟩ | ⟨rfl, rfl, _⟩ | ⟨rfl, rfl, _⟩ <;> exact ⟨by decide, by decide, by decide⟩
theorem val_inj {a b : Stp} (h : a.val = b.val) : a = b := by
  obtain ⟨a1, a2, a3, ⟨a4, a5, a6, a7, a8, a9, a10, a11⟩, a12, a13, a14⟩ := a
  obtain ⟨b1, b2, b3, ⟨b4, b5, b6, b7, b8, b9, b10, b11⟩, b12, b13, b14⟩ := b
  simp only [Stp.val, Stp.cells, Spn.cells, Value.agg.injEq, List.cons_append, List.nil_append, Array.mk.injEq, List.cons.injEq, Value.int.injEq, Value.string.injEq, Value.slice.injEq, and_true, true_and] at h
  obtain ⟨rfl, rfl, rfl, rfl, rfl, rfl, rfl, rfl, rfl, rfl, rfl, rfl, rfl, rfl⟩ := h
  rfl
/-- A line is told; if it is said to be one, the chapter makes the step of its words. -/
def WriteT (e : Ending) (ki nd nn : Int) (sp : Spn) (ks : List Int) : Prop := ∃ (line : ByteArray) (ok : Bool), e = .returned (.tuple #[.string line, .bool ok]) ∧ line.size ≤ 100000 ∧ (ok = false → line = ⟨#[]⟩) ∧ (ok = true → ∃ name L, wordsB line = name :: L ∧ StepOk name L ki nd nn sp ks false)
theorem WriteT.no {ki nd nn : Int} {sp : Spn} {ks : List Int} : WriteT (.returned (.tuple #[.string ⟨#[]⟩, .bool false])) ki nd nn sp ks := ⟨⟨#[]⟩, false, rfl, by decide, fun _ => rfl, fun h => by cases h⟩
set_option maxHeartbeats 60000000 in
set_option maxRecDepth 100000 in
theorem write_k1 {w : World} {ki nd nn : Int} {sp : Spn} {ka : Option Addr} {kc : Nat} {ks : List Int} (HK : KeepR w 0 (.slice ka ks.length kc) ks) (hks : ks.length ≤ 20) (E : Vr w) (h0 : In64 nd) (h6 : In64 nn) (h7 : ∀ n ∈ ks, In64 n) (h1 : In64 sp.tr) (h2 : In64 sp.id) (h3 : In64 sp.pa) (h4 : In64 sp.st) (h5 : In64 sp.du) (z1 : sp.se.size ≤ 1000) (z2 : sp.ho.size ≤ 1000) (z3 : sp.no.size ≤ 1000) (hG : ki = 1) :
    Calls Tryz.prog 9 #[Stp.val ⟨ki, nd, nn, sp, ka, ks.length, kc⟩] w fun e w' => WriteT e ki nd nn sp ks ∧ Kept (fun _ => False) w w' := by
  obtain ⟨g, hg⟩ : ∃ g, w.heap.size = g := ⟨_, rfl⟩
  have HG := Lib.hid hg
  obtain ⟨tr, id, pa, se, ho, st, du, no⟩ := sp
  dsimp only at h1 h2 h3 h4 h5 z1 z2 z3
  unfold Stp.val Stp.cells Spn.cells
  obtain ⟨W0, hW0⟩ : ∃ W, w.alloc (Obj.cells #[.int .i64 ki, .int .i64 nd, .int .i64 nn, .int .i64 tr, .int .i64 id, .int .i64 pa, .string se, .string ho, .int .i64 st, .int .i64 du, .string no, .slice ka ks.length kc] 38) = W := ⟨_, rfl⟩
  have k0 : Kept (fun _ => False) w W0 := by rw [← hW0]; exact (Kept.refl _ _).alloc _
  have a0 : W0.heap[g]? = some (Obj.cells #[.int .i64 ki, .int .i64 nd, .int .i64 nn, .int .i64 tr, .int .i64 id, .int .i64 pa, .string se, .string ho, .int .i64 st, .int .i64 du, .string no, .slice ka ks.length kc] 38 (0, 0)) := by rw [← hW0, ← hg]; exact heap_alloc_new w _
  have K0 := Lib.hid k0
  have A0 := Lib.hid a0
  have E0 := Lib.hid (E.kept k0 (fun _ _ f => f))
  have HKK := Lib.hid HK
  have HKS := Lib.hid hks
  have IN := Lib.hid (And.intro h0 (And.intro h6 h7))
  have SPI := Lib.hid (And.intro h1 (And.intro h2 (And.intro h3 (And.intro h4 (And.intro h5 (And.intro z1 (And.intro z2 z3)))))))
  have GG := Lib.hid hG
  clear hG HK hks E h0 h6 h7 h1 h2 h3 h4 h5 z1 z2 z3 k0 a0
  go_enter Tryz.func9, Tryz.ntmps9
  go_wp2_with fail
  clear hW0 hg
  refine (Ks.kinds_all W0).mono ?_
  rintro e W1 ⟨rfl, k1, m1⟩
  have RG := run_range_map (P := Tryz.prog) W1 60 9 62 W0.heap.size (Ks.entsL 0 Ks.kindsL).toArray 17 Ks.uMapN m1
  have K1 := Lib.hid (K0.out.trans k1 (fun _ _ f => f) (fun _ _ f => f) : Kept (fun _ => False) w W1)
  have A1 := Lib.hid ((k1.block g (blk_lt A0.out) (fun f => f)).trans A0.out)
  have M1 := Lib.hid m1
  have E1 := Lib.hid (E0.out.kept k1 (fun _ _ f => f))
  obtain ⟨bm, hbm⟩ : ∃ b, W0.heap.size = b := ⟨_, rfl⟩
  rw [hbm] at RG M1 ⊢
  obtain ⟨r, hr⟩ : ∃ b, W1.heap.size = b := ⟨_, rfl⟩
  rw [hr] at RG
  have HRR := Lib.hid (And.intro hbm hr)
  obtain ⟨es, hes⟩ : ∃ es, (Ks.entsL 0 Ks.kindsL).toArray = es := ⟨_, rfl⟩
  have ES := Lib.hid hes
  clear k1 m1 hbm hes
  go_wp2_with fail
  go_loopg [11] (leftOf es #[]).size (fun gh s wr => ∃ (seen : Array Nat), gh = (leftOf es seen).size ∧ wr.heap[r]? = some (.mapIter (some bm) 17 seen 17) ∧ Kept (fun _ => False) W1 wr)
  case atStart => exact ⟨#[], rfl, by rw [← hr]; exact heap_alloc_new W1 _, (Kept.refl _ _).alloc _⟩
  case round =>
    obtain ⟨seen, hgk, hit, hkw⟩ := hrel
    clear hr RG
    have GK := Lib.hid hgk
    have KW := Lib.hid hkw
    have MM := Lib.hid (M1.out.kept hkw (fun f => f))
    have hb : wr.heap[bm]? = some (.map es 17) := by
      have := MM.out
      unfold Ks.MapIs at this
      rw [ES.out] at this
      exact this
    have hold : ∀ x ∈ es.toList, x.born < 17 := fun x hx => by
      rw [← ES.out] at hx
      obtain ⟨_, _, _, _, _, _, h⟩ := ks_mem hx
      exact h
    rcases run_next_at (P := Tryz.prog) wr 0 r bm 17 17 seen es 17 hit hb hold (Nat.le_refl _) with ⟨hl, n1⟩ | ⟨e, he, w1, hw1, n1⟩
    · clear hit hb hold hl hgk hkw
      go_wp2_with fail
      go_ret2
      exact ⟨WriteT.no, K1.out.trans KW.out (fun _ _ f => f) (fun _ _ f => f)⟩
    · obtain ⟨hes2, hun⟩ := mem_left he
      have HSH := Lib.hid (left_shrinks es seen e he)
      have hes3 := hes2
      rw [← ES.out] at hes3
      obtain ⟨name, k, c, hrow, ek, ev, hbn⟩ := ks_mem hes3
      rw [ek, ev] at n1
      have HROW := Lib.hid hrow
      have kr : Kept (fun _ => False) wr w1 := by rcases hw1 with rfl | rfl
                                                  · exact Kept.refl _ _
                                                  · exact (Kept.refl _ _).drew
      have hr1 : w1.heap[r]? = some (.mapIter (some bm) 17 seen 17) := (kr.block _ (Array.getElem?_eq_some_iff.1 hit).1 (fun f => f)).trans hit
      obtain ⟨W2, hW2⟩ : ∃ W2, setBlock w1 r (.mapIter (some bm) 17 (seen.push e.born) 17) = W2 := ⟨_, rfl⟩
      rw [hW2] at n1
      have k2 : Kept (fun k => k = r) w1 W2 := by rw [← hW2]; exact Ks.kept_set (S := fun k => k = _) (Kept.refl _ _) (fun _ => rfl) _
      have hr2 : W2.heap[r]? = some (.mapIter (some bm) 17 (seen.push e.born) 17) := by rw [← hW2]; exact Ks.set_same _ (Array.getElem?_eq_some_iff.1 hr1).1
      have rge : W1.heap.size ≤ r := by have := HRR.out.2; omega
      have KW2 := Lib.hid ((KW.out.trans kr (fun _ _ f => f) (fun _ _ f => f)).trans k2 (fun _ _ f => f) (fun q hq hs => by omega) : Kept (fun _ => False) W1 W2)
      have hb2 : W2.heap[bm]? = some (.map es 17) := by
        have := M1.out.kept KW2.out (fun f => f)
        unfold Ks.MapIs at this
        rw [ES.out] at this
        exact this
      have n2 := run_entry_at (P := Tryz.prog) W2 r bm 17 seen es 17 e hr2 hb2 hes2 (by rw [← ES.out]; exact ks_once)
      rw [ek, ev] at n2
      have R2 := Lib.hid hr2
      have A2 := Lib.hid ((KW2.out.block g (blk_lt A1.out) (fun f => f)).trans A1.out)
      have c0 : W2.cell? ⟨g, 0, none⟩ = some (.int .i64 ki) := blk_cell A2.out 0
      have gl := blk_lt A2.out
      clear hw1 kr hr1 hW2 k2 hr2 hb2 hes2 hes3 hun ek ev hbn hit hb hold hgk hkw he hrow rge c0
      by_cases hk : k = ki
      · subst hk
        have NS := Lib.hid (row_name HROW.out).1
        have hq := GG.out
        subst hq
        have c0 : W2.cell? ⟨g, 0, none⟩ = some (.int .i64 1) := blk_cell A2.out 0
        have c1 : W2.cell? ⟨g, 1, none⟩ = some (.int .i64 nd) := blk_cell A2.out 1
        have c2 : W2.cell? ⟨g, 2, none⟩ = some (.int .i64 nn) := blk_cell A2.out 2
        have c3 : W2.cell? ⟨g, 3, none⟩ = some (.int .i64 tr) := blk_cell A2.out 3
        have c4 : W2.cell? ⟨g, 4, none⟩ = some (.int .i64 id) := blk_cell A2.out 4
        have c5 : W2.cell? ⟨g, 5, none⟩ = some (.int .i64 pa) := blk_cell A2.out 5
        have c6 : W2.cell? ⟨g, 6, none⟩ = some (.string se) := blk_cell A2.out 6
        have c7 : W2.cell? ⟨g, 7, none⟩ = some (.string ho) := blk_cell A2.out 7
        have c8 : W2.cell? ⟨g, 8, none⟩ = some (.int .i64 st) := blk_cell A2.out 8
        have c9 : W2.cell? ⟨g, 9, none⟩ = some (.int .i64 du) := blk_cell A2.out 9
        have c10 : W2.cell? ⟨g, 10, none⟩ = some (.string no) := blk_cell A2.out 10
        have c11 : W2.cell? ⟨g, 11, none⟩ = some (.slice ka ks.length kc) := blk_cell A2.out 11
        go_wp2_with fail
        have TB := Lib.hid (fun (W : World) (K : Kept (fun _ => False) W2 W) => (E1.out.tab.kept (KW2.out.trans K (fun _ _ f => f) (fun _ _ f => f) : Kept (fun _ => False) W1 W) (fun f => f)))
        have TD := Lib.hid (fun (W : World) (K : Kept (fun _ => False) W2 W) => told_d (w := W) (m := ⟨tr, id, pa, se, ho, st, du, no⟩) (TB.out W K) SPI.out.1 SPI.out.2.1 SPI.out.2.2.1 SPI.out.2.2.2.1 SPI.out.2.2.2.2.1 SPI.out.2.2.2.2.2.1 SPI.out.2.2.2.2.2.2.1 SPI.out.2.2.2.2.2.2.2)
        unfold Spn.val Spn.cells at TD
        go_region_held3 (fun w' => w'.cell? ⟨g, 1, none⟩ = some (.int .i64 nd) ∧ w'.cell? ⟨g, 3, none⟩ = some (.int .i64 tr) ∧ w'.cell? ⟨g, 4, none⟩ = some (.int .i64 id) ∧ w'.cell? ⟨g, 5, none⟩ = some (.int .i64 pa) ∧ w'.cell? ⟨g, 6, none⟩ = some (.string se) ∧ w'.cell? ⟨g, 7, none⟩ = some (.string ho) ∧ w'.cell? ⟨g, 8, none⟩ = some (.int .i64 st) ∧ w'.cell? ⟨g, 9, none⟩ = some (.int .i64 du) ∧ w'.cell? ⟨g, 10, none⟩ = some (.string no)) (first | go_keep | (go_split_ands; exact ⟨kk.cell (by assumption) (fun f => f), kk.cell (by assumption) (fun f => f), kk.cell (by assumption) (fun f => f), kk.cell (by assumption) (fun f => f), kk.cell (by assumption) (fun f => f), kk.cell (by assumption) (fun f => f), kk.cell (by assumption) (fun f => f), kk.cell (by assumption) (fun f => f), kk.cell (by assumption) (fun f => f)⟩))
          (first
            | (go_at_call 22; refine (TD.out _ KX.out).mono ?_; rintro e5 w5 ⟨⟨s5, rfl, l5⟩, kk⟩; (have K5 := Lib.hid (KX.out.trans kk (fun _ _ f => f) (fun _ _ f => f) : Kept (fun _ => False) W2 w5)); (have S5 := Lib.hid l5); (have z2 : ¬ 9223372036854775807 < s4.size + 1 + s5.size := (by have := S4.out; omega)); clear l5)
            | (go_at_call 21; refine (row_d (word := name) (keep_lit (ns := [nd]) (by first | exact heap_second _ _ _ | exact heap_alloc_new _ _) rfl) (by intro n hn; simp at hn; subst hn; exact IN.out.1) (by simp) (by have := NS.out; omega) (TB.out _ (by repeat (first | exact Kept.refl _ _ | apply Kept.drew | apply Kept.alloc)))).mono ?_; rintro e4 w4 ⟨⟨s4, rfl, l4, l5⟩, kk⟩; (have KX := Lib.hid (Kept.trans (by repeat (first | exact Kept.refl _ _ | apply Kept.drew | apply Kept.alloc)) kk (fun _ _ f => f) (fun _ _ f => f) : Kept (fun _ => False) W2 w4)); (have S4 := Lib.hid (show s4.size ≤ 100 from (by have := NS.out; simp at l5; omega))); (have z1 : ¬ 9223372036854775807 < s4.size + 1 := (by have := S4.out; omega)); clear l4 l5))
        go_wp2_with fail
        have KL := Lib.hid (K5.out : Kept (fun _ => False) W2 w5)
        have LS := Lib.hid (show (s4 ++ ⟨#[32]⟩ ++ s5).size ≤ 100000 from (by have h1 := S4.out; have h2 := S5.out; have h3 : (⟨#[32]⟩ : ByteArray).size = 1 := rfl; simp only [ByteArray.size_append]; omega))
        refine (read_d (w := w5) (by have := LS.out; omega) (E1.out.kept (KW2.out.trans KL.out (fun _ _ f => f) (fun _ _ f => f) : Kept (fun _ => False) W1 _) (fun _ _ f => f))).mono ?_
        rintro e7 w7 ⟨⟨u, ok, rfl, hok⟩, k7⟩
        have OK := Lib.hid hok
        have K7 := Lib.hid (KL.out.trans k7 (fun _ _ f => f) (fun _ _ f => f) : Kept (fun _ => False) W2 w7)
        have A7 := Lib.hid ((K7.out.block g (blk_lt A2.out) (fun f => f)).trans A2.out)
        have g7 := blk_lt A7.out
        clear hok k7
        cases ok with
        | false =>
          obtain ⟨uk, ud, un, ⟨ut, ui, up, us, uh, ux, uu, uo⟩, ua, ul, uc⟩ := u
          unfold Stp.val Stp.cells Spn.cells
          go_wp2_with fail
          go_roundg (leftOf es (seen.push e.born)).size
          case measure => rw [GK.out]; exact HSH.out
          case rel => exact ⟨seen.push e.born, rfl, (((K7.out.alloc _ : Kept (fun _ => False) W2 _)).block r (blk_lt R2.out) (fun f => f)).trans R2.out, KW2.out.trans (K7.out.alloc _) (fun _ _ f => f) (fun _ _ f => f)⟩
        | true =>
          obtain ⟨name2, L2, ki2, nd2, nn2, sp2, ks2, hw2, hso2, ⟨ka2, kc2, heq, hkp⟩, hlen2⟩ := OK.out rfl
          have hu := val_inj heq
          subst hu
          have SO := Lib.hid (And.intro hw2 hso2)
          have LN := Lib.hid hlen2
          have KP := Lib.hid (hkp.low (c := 0) (Nat.zero_le _))
          have SA := Lib.hid (fun (W : World) (K : Kept (fun _ => False) w7 W) => same_all (w := W) (ki1 := 1) (nd1 := nd) (nn1 := nn) (sp1 := ⟨tr, id, pa, se, ho, st, du, no⟩) (ki2 := ki2) (nd2 := nd2) (nn2 := nn2) (sp2 := sp2) (HKK.out.kept ((K1.out.trans KW2.out (fun _ _ f => f) (fun _ _ f => f) : Kept (fun _ => False) w W2).trans (K7.out.trans K (fun _ _ f => f) (fun _ _ f => f) : Kept (fun _ => False) W2 W) (fun _ _ f => f) (fun _ _ f => f) : Kept (fun _ => False) w W) (fun _ _ f => f)) (KP.out.kept K (fun _ _ f => f)) (by have := HKS.out; omega) LN.out)
          obtain ⟨tr2, id2, pa2, se2, ho2, st2, du2, no2⟩ := sp2
          unfold Stp.val Stp.cells Spn.cells at SA ⊢
          clear hw2 hso2 heq hkp hlen2 OK
          have d0 : w7.cell? ⟨g, 0, none⟩ = some (.int .i64 1) := blk_cell A7.out 0
          have d1 : w7.cell? ⟨g, 1, none⟩ = some (.int .i64 nd) := blk_cell A7.out 1
          have d2 : w7.cell? ⟨g, 2, none⟩ = some (.int .i64 nn) := blk_cell A7.out 2
          have d3 : w7.cell? ⟨g, 3, none⟩ = some (.int .i64 tr) := blk_cell A7.out 3
          have d4 : w7.cell? ⟨g, 4, none⟩ = some (.int .i64 id) := blk_cell A7.out 4
          have d5 : w7.cell? ⟨g, 5, none⟩ = some (.int .i64 pa) := blk_cell A7.out 5
          have d6 : w7.cell? ⟨g, 6, none⟩ = some (.string se) := blk_cell A7.out 6
          have d7 : w7.cell? ⟨g, 7, none⟩ = some (.string ho) := blk_cell A7.out 7
          have d8 : w7.cell? ⟨g, 8, none⟩ = some (.int .i64 st) := blk_cell A7.out 8
          have d9 : w7.cell? ⟨g, 9, none⟩ = some (.int .i64 du) := blk_cell A7.out 9
          have d10 : w7.cell? ⟨g, 10, none⟩ = some (.string no) := blk_cell A7.out 10
          have d11 : w7.cell? ⟨g, 11, none⟩ = some (.slice ka ks.length kc) := blk_cell A7.out 11
          go_wp2_with fail
          refine (SA.out _ ((Kept.refl _ _).alloc _)).mono ?_
          rintro e9 w9 ⟨⟨bb, rfl, hbb⟩, k9⟩
          have BB := Lib.hid hbb
          have K9 := Lib.hid (K7.out.trans (((Kept.refl (fun _ => False) w7).alloc _).trans k9 (fun _ _ f => f) (fun _ _ f => f)) (fun _ _ f => f) (fun _ _ f => f) : Kept (fun _ => False) W2 w9)
          clear hbb k9
          cases bb with
          | false =>
            go_wp2_with fail
            go_roundg (leftOf es (seen.push e.born)).size
            case measure => rw [GK.out]; exact HSH.out
            case rel => exact ⟨seen.push e.born, rfl, (K9.out.block r (blk_lt R2.out) (fun f => f)).trans R2.out, KW2.out.trans K9.out (fun _ _ f => f) (fun _ _ f => f)⟩
          | true =>
            obtain ⟨q1, q2, q3, q4, q5⟩ := BB.out rfl
            have QQ := Lib.hid (And.intro q1 (And.intro q2 (And.intro q3 (And.intro q4 q5))))
            clear q1 q2 q3 q4 q5
            go_wp2_with fail
            go_ret2
            refine ⟨⟨_, true, rfl, LS.out, (fun h => by cases h), fun _ => ⟨name2, L2, SO.out.1, ?_⟩⟩, K1.out.trans (KW2.out.trans K9.out (fun _ _ f => f) (fun _ _ f => f) : Kept (fun _ => False) W1 w9) (fun _ _ f => f) (fun _ _ f => f)⟩
            have h := SO.out.2
            rw [← QQ.out.1, ← QQ.out.2.1, ← QQ.out.2.2.1, ← QQ.out.2.2.2.1, ← QQ.out.2.2.2.2] at h
            exact h
      · have f1 : (k == ki) = false := by simpa using hk
        have f2 : (k != ki) = true := by simpa using hk
        clear hk
        have c0 : W2.cell? ⟨g, 0, none⟩ = some (.int .i64 ki) := blk_cell A2.out 0
        go_wp2_with fail
        go_roundg (leftOf es (seen.push e.born)).size
        case measure => rw [GK.out]; exact HSH.out
        case rel => exact ⟨seen.push e.born, rfl, (((Kept.refl (fun _ => False) W2).alloc _).block r (blk_lt R2.out) (fun f => f)).trans R2.out, KW2.out.trans ((Kept.refl (fun _ => False) W2).alloc _) (fun _ _ f => f) (fun _ _ f => f)⟩
set_option maxHeartbeats 60000000 in
set_option maxRecDepth 100000 in
theorem write_k2 {w : World} {ki nd nn : Int} {sp : Spn} {ka : Option Addr} {kc : Nat} {ks : List Int} (HK : KeepR w 0 (.slice ka ks.length kc) ks) (hks : ks.length ≤ 20) (E : Vr w) (h0 : In64 nd) (h6 : In64 nn) (h7 : ∀ n ∈ ks, In64 n) (h1 : In64 sp.tr) (h2 : In64 sp.id) (h3 : In64 sp.pa) (h4 : In64 sp.st) (h5 : In64 sp.du) (z1 : sp.se.size ≤ 1000) (z2 : sp.ho.size ≤ 1000) (z3 : sp.no.size ≤ 1000) (hG : ki = 7 ∨ ki = 8 ∨ ki = 9 ∨ ki = 10) :
    Calls Tryz.prog 9 #[Stp.val ⟨ki, nd, nn, sp, ka, ks.length, kc⟩] w fun e w' => WriteT e ki nd nn sp ks ∧ Kept (fun _ => False) w w' := by
  obtain ⟨g, hg⟩ : ∃ g, w.heap.size = g := ⟨_, rfl⟩
  have HG := Lib.hid hg
  obtain ⟨tr, id, pa, se, ho, st, du, no⟩ := sp
  dsimp only at h1 h2 h3 h4 h5 z1 z2 z3
  unfold Stp.val Stp.cells Spn.cells
  obtain ⟨W0, hW0⟩ : ∃ W, w.alloc (Obj.cells #[.int .i64 ki, .int .i64 nd, .int .i64 nn, .int .i64 tr, .int .i64 id, .int .i64 pa, .string se, .string ho, .int .i64 st, .int .i64 du, .string no, .slice ka ks.length kc] 38) = W := ⟨_, rfl⟩
  have k0 : Kept (fun _ => False) w W0 := by rw [← hW0]; exact (Kept.refl _ _).alloc _
  have a0 : W0.heap[g]? = some (Obj.cells #[.int .i64 ki, .int .i64 nd, .int .i64 nn, .int .i64 tr, .int .i64 id, .int .i64 pa, .string se, .string ho, .int .i64 st, .int .i64 du, .string no, .slice ka ks.length kc] 38 (0, 0)) := by rw [← hW0, ← hg]; exact heap_alloc_new w _
  have K0 := Lib.hid k0
  have A0 := Lib.hid a0
  have E0 := Lib.hid (E.kept k0 (fun _ _ f => f))
  have HKK := Lib.hid HK
  have HKS := Lib.hid hks
  have IN := Lib.hid (And.intro h0 (And.intro h6 h7))
  have SPI := Lib.hid (And.intro h1 (And.intro h2 (And.intro h3 (And.intro h4 (And.intro h5 (And.intro z1 (And.intro z2 z3)))))))
  have GG := Lib.hid hG
  clear hG HK hks E h0 h6 h7 h1 h2 h3 h4 h5 z1 z2 z3 k0 a0
  go_enter Tryz.func9, Tryz.ntmps9
  go_wp2_with fail
  clear hW0 hg
  refine (Ks.kinds_all W0).mono ?_
  rintro e W1 ⟨rfl, k1, m1⟩
  have RG := run_range_map (P := Tryz.prog) W1 60 9 62 W0.heap.size (Ks.entsL 0 Ks.kindsL).toArray 17 Ks.uMapN m1
  have K1 := Lib.hid (K0.out.trans k1 (fun _ _ f => f) (fun _ _ f => f) : Kept (fun _ => False) w W1)
  have A1 := Lib.hid ((k1.block g (blk_lt A0.out) (fun f => f)).trans A0.out)
  have M1 := Lib.hid m1
  have E1 := Lib.hid (E0.out.kept k1 (fun _ _ f => f))
  obtain ⟨bm, hbm⟩ : ∃ b, W0.heap.size = b := ⟨_, rfl⟩
  rw [hbm] at RG M1 ⊢
  obtain ⟨r, hr⟩ : ∃ b, W1.heap.size = b := ⟨_, rfl⟩
  rw [hr] at RG
  have HRR := Lib.hid (And.intro hbm hr)
  obtain ⟨es, hes⟩ : ∃ es, (Ks.entsL 0 Ks.kindsL).toArray = es := ⟨_, rfl⟩
  have ES := Lib.hid hes
  clear k1 m1 hbm hes
  go_wp2_with fail
  go_loopg [11] (leftOf es #[]).size (fun gh s wr => ∃ (seen : Array Nat), gh = (leftOf es seen).size ∧ wr.heap[r]? = some (.mapIter (some bm) 17 seen 17) ∧ Kept (fun _ => False) W1 wr)
  case atStart => exact ⟨#[], rfl, by rw [← hr]; exact heap_alloc_new W1 _, (Kept.refl _ _).alloc _⟩
  case round =>
    obtain ⟨seen, hgk, hit, hkw⟩ := hrel
    clear hr RG
    have GK := Lib.hid hgk
    have KW := Lib.hid hkw
    have MM := Lib.hid (M1.out.kept hkw (fun f => f))
    have hb : wr.heap[bm]? = some (.map es 17) := by
      have := MM.out
      unfold Ks.MapIs at this
      rw [ES.out] at this
      exact this
    have hold : ∀ x ∈ es.toList, x.born < 17 := fun x hx => by
      rw [← ES.out] at hx
      obtain ⟨_, _, _, _, _, _, h⟩ := ks_mem hx
      exact h
    rcases run_next_at (P := Tryz.prog) wr 0 r bm 17 17 seen es 17 hit hb hold (Nat.le_refl _) with ⟨hl, n1⟩ | ⟨e, he, w1, hw1, n1⟩
    · clear hit hb hold hl hgk hkw
      go_wp2_with fail
      go_ret2
      exact ⟨WriteT.no, K1.out.trans KW.out (fun _ _ f => f) (fun _ _ f => f)⟩
    · obtain ⟨hes2, hun⟩ := mem_left he
      have HSH := Lib.hid (left_shrinks es seen e he)
      have hes3 := hes2
      rw [← ES.out] at hes3
      obtain ⟨name, k, c, hrow, ek, ev, hbn⟩ := ks_mem hes3
      rw [ek, ev] at n1
      have HROW := Lib.hid hrow
      have kr : Kept (fun _ => False) wr w1 := by rcases hw1 with rfl | rfl
                                                  · exact Kept.refl _ _
                                                  · exact (Kept.refl _ _).drew
      have hr1 : w1.heap[r]? = some (.mapIter (some bm) 17 seen 17) := (kr.block _ (Array.getElem?_eq_some_iff.1 hit).1 (fun f => f)).trans hit
      obtain ⟨W2, hW2⟩ : ∃ W2, setBlock w1 r (.mapIter (some bm) 17 (seen.push e.born) 17) = W2 := ⟨_, rfl⟩
      rw [hW2] at n1
      have k2 : Kept (fun k => k = r) w1 W2 := by rw [← hW2]; exact Ks.kept_set (S := fun k => k = _) (Kept.refl _ _) (fun _ => rfl) _
      have hr2 : W2.heap[r]? = some (.mapIter (some bm) 17 (seen.push e.born) 17) := by rw [← hW2]; exact Ks.set_same _ (Array.getElem?_eq_some_iff.1 hr1).1
      have rge : W1.heap.size ≤ r := by have := HRR.out.2; omega
      have KW2 := Lib.hid ((KW.out.trans kr (fun _ _ f => f) (fun _ _ f => f)).trans k2 (fun _ _ f => f) (fun q hq hs => by omega) : Kept (fun _ => False) W1 W2)
      have hb2 : W2.heap[bm]? = some (.map es 17) := by
        have := M1.out.kept KW2.out (fun f => f)
        unfold Ks.MapIs at this
        rw [ES.out] at this
        exact this
      have n2 := run_entry_at (P := Tryz.prog) W2 r bm 17 seen es 17 e hr2 hb2 hes2 (by rw [← ES.out]; exact ks_once)
      rw [ek, ev] at n2
      have R2 := Lib.hid hr2
      have A2 := Lib.hid ((KW2.out.block g (blk_lt A1.out) (fun f => f)).trans A1.out)
      have c0 : W2.cell? ⟨g, 0, none⟩ = some (.int .i64 ki) := blk_cell A2.out 0
      have gl := blk_lt A2.out
      clear hw1 kr hr1 hW2 k2 hr2 hb2 hes2 hes3 hun ek ev hbn hit hb hold hgk hkw he hrow rge c0
      by_cases hk : k = ki
      · subst hk
        have NS := Lib.hid (row_name HROW.out).1
        rcases GG.out with hq | hq | hq | hq
        · subst hq
          have c0 : W2.cell? ⟨g, 0, none⟩ = some (.int .i64 7) := blk_cell A2.out 0
          have c1 : W2.cell? ⟨g, 1, none⟩ = some (.int .i64 nd) := blk_cell A2.out 1
          have c2 : W2.cell? ⟨g, 2, none⟩ = some (.int .i64 nn) := blk_cell A2.out 2
          have c3 : W2.cell? ⟨g, 3, none⟩ = some (.int .i64 tr) := blk_cell A2.out 3
          have c4 : W2.cell? ⟨g, 4, none⟩ = some (.int .i64 id) := blk_cell A2.out 4
          have c5 : W2.cell? ⟨g, 5, none⟩ = some (.int .i64 pa) := blk_cell A2.out 5
          have c6 : W2.cell? ⟨g, 6, none⟩ = some (.string se) := blk_cell A2.out 6
          have c7 : W2.cell? ⟨g, 7, none⟩ = some (.string ho) := blk_cell A2.out 7
          have c8 : W2.cell? ⟨g, 8, none⟩ = some (.int .i64 st) := blk_cell A2.out 8
          have c9 : W2.cell? ⟨g, 9, none⟩ = some (.int .i64 du) := blk_cell A2.out 9
          have c10 : W2.cell? ⟨g, 10, none⟩ = some (.string no) := blk_cell A2.out 10
          have c11 : W2.cell? ⟨g, 11, none⟩ = some (.slice ka ks.length kc) := blk_cell A2.out 11
          go_wp2_with fail
          refine (row_d (word := name) (keep_lit (ns := [nn]) (heap_second _ _ _) rfl) (by intro n hn; simp at hn; subst hn; exact IN.out.2.1) (by simp) (by have := NS.out; omega) (E1.out.tab.kept (KW2.out.trans (((Kept.refl (fun _ => False) W2).alloc _).alloc _) (fun _ _ f => f) (fun _ _ f => f) : Kept (fun _ => False) W1 _) (fun f => f))).mono ?_
          rintro e4 w4 ⟨⟨s4, rfl, l4, l5⟩, k4⟩
          have K4 := Lib.hid (Kept.trans (((Kept.refl (fun _ => False) W2).alloc _).alloc _) k4 (fun _ _ f => f) (fun _ _ f => f) : Kept (fun _ => False) W2 w4)
          have S4 := Lib.hid (show s4.size ≤ 100 from by have := NS.out; simp at l5; omega)
          clear k4 l4 l5
          go_wp2_with fail
          have KL := Lib.hid (K4.out : Kept (fun _ => False) W2 w4)
          have LS := Lib.hid (show s4.size ≤ 100000 from (by have := S4.out; omega))
          refine (read_d (w := w4) (by have := LS.out; omega) (E1.out.kept (KW2.out.trans KL.out (fun _ _ f => f) (fun _ _ f => f) : Kept (fun _ => False) W1 _) (fun _ _ f => f))).mono ?_
          rintro e7 w7 ⟨⟨u, ok, rfl, hok⟩, k7⟩
          have OK := Lib.hid hok
          have K7 := Lib.hid (KL.out.trans k7 (fun _ _ f => f) (fun _ _ f => f) : Kept (fun _ => False) W2 w7)
          have A7 := Lib.hid ((K7.out.block g (blk_lt A2.out) (fun f => f)).trans A2.out)
          have g7 := blk_lt A7.out
          clear hok k7
          cases ok with
          | false =>
            obtain ⟨uk, ud, un, ⟨ut, ui, up, us, uh, ux, uu, uo⟩, ua, ul, uc⟩ := u
            unfold Stp.val Stp.cells Spn.cells
            go_wp2_with fail
            go_roundg (leftOf es (seen.push e.born)).size
            case measure => rw [GK.out]; exact HSH.out
            case rel => exact ⟨seen.push e.born, rfl, (((K7.out.alloc _ : Kept (fun _ => False) W2 _)).block r (blk_lt R2.out) (fun f => f)).trans R2.out, KW2.out.trans (K7.out.alloc _) (fun _ _ f => f) (fun _ _ f => f)⟩
          | true =>
            obtain ⟨name2, L2, ki2, nd2, nn2, sp2, ks2, hw2, hso2, ⟨ka2, kc2, heq, hkp⟩, hlen2⟩ := OK.out rfl
            have hu := val_inj heq
            subst hu
            have SO := Lib.hid (And.intro hw2 hso2)
            have LN := Lib.hid hlen2
            have KP := Lib.hid (hkp.low (c := 0) (Nat.zero_le _))
            have SA := Lib.hid (fun (W : World) (K : Kept (fun _ => False) w7 W) => same_all (w := W) (ki1 := 7) (nd1 := nd) (nn1 := nn) (sp1 := ⟨tr, id, pa, se, ho, st, du, no⟩) (ki2 := ki2) (nd2 := nd2) (nn2 := nn2) (sp2 := sp2) (HKK.out.kept ((K1.out.trans KW2.out (fun _ _ f => f) (fun _ _ f => f) : Kept (fun _ => False) w W2).trans (K7.out.trans K (fun _ _ f => f) (fun _ _ f => f) : Kept (fun _ => False) W2 W) (fun _ _ f => f) (fun _ _ f => f) : Kept (fun _ => False) w W) (fun _ _ f => f)) (KP.out.kept K (fun _ _ f => f)) (by have := HKS.out; omega) LN.out)
            obtain ⟨tr2, id2, pa2, se2, ho2, st2, du2, no2⟩ := sp2
            unfold Stp.val Stp.cells Spn.cells at SA ⊢
            clear hw2 hso2 heq hkp hlen2 OK
            have d0 : w7.cell? ⟨g, 0, none⟩ = some (.int .i64 7) := blk_cell A7.out 0
            have d1 : w7.cell? ⟨g, 1, none⟩ = some (.int .i64 nd) := blk_cell A7.out 1
            have d2 : w7.cell? ⟨g, 2, none⟩ = some (.int .i64 nn) := blk_cell A7.out 2
            have d3 : w7.cell? ⟨g, 3, none⟩ = some (.int .i64 tr) := blk_cell A7.out 3
            have d4 : w7.cell? ⟨g, 4, none⟩ = some (.int .i64 id) := blk_cell A7.out 4
            have d5 : w7.cell? ⟨g, 5, none⟩ = some (.int .i64 pa) := blk_cell A7.out 5
            have d6 : w7.cell? ⟨g, 6, none⟩ = some (.string se) := blk_cell A7.out 6
            have d7 : w7.cell? ⟨g, 7, none⟩ = some (.string ho) := blk_cell A7.out 7
            have d8 : w7.cell? ⟨g, 8, none⟩ = some (.int .i64 st) := blk_cell A7.out 8
            have d9 : w7.cell? ⟨g, 9, none⟩ = some (.int .i64 du) := blk_cell A7.out 9
            have d10 : w7.cell? ⟨g, 10, none⟩ = some (.string no) := blk_cell A7.out 10
            have d11 : w7.cell? ⟨g, 11, none⟩ = some (.slice ka ks.length kc) := blk_cell A7.out 11
            go_wp2_with fail
            refine (SA.out _ ((Kept.refl _ _).alloc _)).mono ?_
            rintro e9 w9 ⟨⟨bb, rfl, hbb⟩, k9⟩
            have BB := Lib.hid hbb
            have K9 := Lib.hid (K7.out.trans (((Kept.refl (fun _ => False) w7).alloc _).trans k9 (fun _ _ f => f) (fun _ _ f => f)) (fun _ _ f => f) (fun _ _ f => f) : Kept (fun _ => False) W2 w9)
            clear hbb k9
            cases bb with
            | false =>
              go_wp2_with fail
              go_roundg (leftOf es (seen.push e.born)).size
              case measure => rw [GK.out]; exact HSH.out
              case rel => exact ⟨seen.push e.born, rfl, (K9.out.block r (blk_lt R2.out) (fun f => f)).trans R2.out, KW2.out.trans K9.out (fun _ _ f => f) (fun _ _ f => f)⟩
            | true =>
              obtain ⟨q1, q2, q3, q4, q5⟩ := BB.out rfl
              have QQ := Lib.hid (And.intro q1 (And.intro q2 (And.intro q3 (And.intro q4 q5))))
              clear q1 q2 q3 q4 q5
              go_wp2_with fail
              go_ret2
              refine ⟨⟨_, true, rfl, LS.out, (fun h => by cases h), fun _ => ⟨name2, L2, SO.out.1, ?_⟩⟩, K1.out.trans (KW2.out.trans K9.out (fun _ _ f => f) (fun _ _ f => f) : Kept (fun _ => False) W1 w9) (fun _ _ f => f) (fun _ _ f => f)⟩
              have h := SO.out.2
              rw [← QQ.out.1, ← QQ.out.2.1, ← QQ.out.2.2.1, ← QQ.out.2.2.2.1, ← QQ.out.2.2.2.2] at h
              exact h
        · subst hq
          have c0 : W2.cell? ⟨g, 0, none⟩ = some (.int .i64 8) := blk_cell A2.out 0
          have c1 : W2.cell? ⟨g, 1, none⟩ = some (.int .i64 nd) := blk_cell A2.out 1
          have c2 : W2.cell? ⟨g, 2, none⟩ = some (.int .i64 nn) := blk_cell A2.out 2
          have c3 : W2.cell? ⟨g, 3, none⟩ = some (.int .i64 tr) := blk_cell A2.out 3
          have c4 : W2.cell? ⟨g, 4, none⟩ = some (.int .i64 id) := blk_cell A2.out 4
          have c5 : W2.cell? ⟨g, 5, none⟩ = some (.int .i64 pa) := blk_cell A2.out 5
          have c6 : W2.cell? ⟨g, 6, none⟩ = some (.string se) := blk_cell A2.out 6
          have c7 : W2.cell? ⟨g, 7, none⟩ = some (.string ho) := blk_cell A2.out 7
          have c8 : W2.cell? ⟨g, 8, none⟩ = some (.int .i64 st) := blk_cell A2.out 8
          have c9 : W2.cell? ⟨g, 9, none⟩ = some (.int .i64 du) := blk_cell A2.out 9
          have c10 : W2.cell? ⟨g, 10, none⟩ = some (.string no) := blk_cell A2.out 10
          have c11 : W2.cell? ⟨g, 11, none⟩ = some (.slice ka ks.length kc) := blk_cell A2.out 11
          go_wp2_with fail
          refine (row_d (word := name) (keep_lit (ns := [nn]) (heap_second _ _ _) rfl) (by intro n hn; simp at hn; subst hn; exact IN.out.2.1) (by simp) (by have := NS.out; omega) (E1.out.tab.kept (KW2.out.trans (((Kept.refl (fun _ => False) W2).alloc _).alloc _) (fun _ _ f => f) (fun _ _ f => f) : Kept (fun _ => False) W1 _) (fun f => f))).mono ?_
          rintro e4 w4 ⟨⟨s4, rfl, l4, l5⟩, k4⟩
          have K4 := Lib.hid (Kept.trans (((Kept.refl (fun _ => False) W2).alloc _).alloc _) k4 (fun _ _ f => f) (fun _ _ f => f) : Kept (fun _ => False) W2 w4)
          have S4 := Lib.hid (show s4.size ≤ 100 from by have := NS.out; simp at l5; omega)
          clear k4 l4 l5
          go_wp2_with fail
          have KL := Lib.hid (K4.out : Kept (fun _ => False) W2 w4)
          have LS := Lib.hid (show s4.size ≤ 100000 from (by have := S4.out; omega))
          refine (read_d (w := w4) (by have := LS.out; omega) (E1.out.kept (KW2.out.trans KL.out (fun _ _ f => f) (fun _ _ f => f) : Kept (fun _ => False) W1 _) (fun _ _ f => f))).mono ?_
          rintro e7 w7 ⟨⟨u, ok, rfl, hok⟩, k7⟩
          have OK := Lib.hid hok
          have K7 := Lib.hid (KL.out.trans k7 (fun _ _ f => f) (fun _ _ f => f) : Kept (fun _ => False) W2 w7)
          have A7 := Lib.hid ((K7.out.block g (blk_lt A2.out) (fun f => f)).trans A2.out)
          have g7 := blk_lt A7.out
          clear hok k7
          cases ok with
          | false =>
            obtain ⟨uk, ud, un, ⟨ut, ui, up, us, uh, ux, uu, uo⟩, ua, ul, uc⟩ := u
            unfold Stp.val Stp.cells Spn.cells
            go_wp2_with fail
            go_roundg (leftOf es (seen.push e.born)).size
            case measure => rw [GK.out]; exact HSH.out
            case rel => exact ⟨seen.push e.born, rfl, (((K7.out.alloc _ : Kept (fun _ => False) W2 _)).block r (blk_lt R2.out) (fun f => f)).trans R2.out, KW2.out.trans (K7.out.alloc _) (fun _ _ f => f) (fun _ _ f => f)⟩
          | true =>
            obtain ⟨name2, L2, ki2, nd2, nn2, sp2, ks2, hw2, hso2, ⟨ka2, kc2, heq, hkp⟩, hlen2⟩ := OK.out rfl
            have hu := val_inj heq
            subst hu
            have SO := Lib.hid (And.intro hw2 hso2)
            have LN := Lib.hid hlen2
            have KP := Lib.hid (hkp.low (c := 0) (Nat.zero_le _))
            have SA := Lib.hid (fun (W : World) (K : Kept (fun _ => False) w7 W) => same_all (w := W) (ki1 := 8) (nd1 := nd) (nn1 := nn) (sp1 := ⟨tr, id, pa, se, ho, st, du, no⟩) (ki2 := ki2) (nd2 := nd2) (nn2 := nn2) (sp2 := sp2) (HKK.out.kept ((K1.out.trans KW2.out (fun _ _ f => f) (fun _ _ f => f) : Kept (fun _ => False) w W2).trans (K7.out.trans K (fun _ _ f => f) (fun _ _ f => f) : Kept (fun _ => False) W2 W) (fun _ _ f => f) (fun _ _ f => f) : Kept (fun _ => False) w W) (fun _ _ f => f)) (KP.out.kept K (fun _ _ f => f)) (by have := HKS.out; omega) LN.out)
            obtain ⟨tr2, id2, pa2, se2, ho2, st2, du2, no2⟩ := sp2
            unfold Stp.val Stp.cells Spn.cells at SA ⊢
            clear hw2 hso2 heq hkp hlen2 OK
            have d0 : w7.cell? ⟨g, 0, none⟩ = some (.int .i64 8) := blk_cell A7.out 0
            have d1 : w7.cell? ⟨g, 1, none⟩ = some (.int .i64 nd) := blk_cell A7.out 1
            have d2 : w7.cell? ⟨g, 2, none⟩ = some (.int .i64 nn) := blk_cell A7.out 2
            have d3 : w7.cell? ⟨g, 3, none⟩ = some (.int .i64 tr) := blk_cell A7.out 3
            have d4 : w7.cell? ⟨g, 4, none⟩ = some (.int .i64 id) := blk_cell A7.out 4
            have d5 : w7.cell? ⟨g, 5, none⟩ = some (.int .i64 pa) := blk_cell A7.out 5
            have d6 : w7.cell? ⟨g, 6, none⟩ = some (.string se) := blk_cell A7.out 6
            have d7 : w7.cell? ⟨g, 7, none⟩ = some (.string ho) := blk_cell A7.out 7
            have d8 : w7.cell? ⟨g, 8, none⟩ = some (.int .i64 st) := blk_cell A7.out 8
            have d9 : w7.cell? ⟨g, 9, none⟩ = some (.int .i64 du) := blk_cell A7.out 9
            have d10 : w7.cell? ⟨g, 10, none⟩ = some (.string no) := blk_cell A7.out 10
            have d11 : w7.cell? ⟨g, 11, none⟩ = some (.slice ka ks.length kc) := blk_cell A7.out 11
            go_wp2_with fail
            refine (SA.out _ ((Kept.refl _ _).alloc _)).mono ?_
            rintro e9 w9 ⟨⟨bb, rfl, hbb⟩, k9⟩
            have BB := Lib.hid hbb
            have K9 := Lib.hid (K7.out.trans (((Kept.refl (fun _ => False) w7).alloc _).trans k9 (fun _ _ f => f) (fun _ _ f => f)) (fun _ _ f => f) (fun _ _ f => f) : Kept (fun _ => False) W2 w9)
            clear hbb k9
            cases bb with
            | false =>
              go_wp2_with fail
              go_roundg (leftOf es (seen.push e.born)).size
              case measure => rw [GK.out]; exact HSH.out
              case rel => exact ⟨seen.push e.born, rfl, (K9.out.block r (blk_lt R2.out) (fun f => f)).trans R2.out, KW2.out.trans K9.out (fun _ _ f => f) (fun _ _ f => f)⟩
            | true =>
              obtain ⟨q1, q2, q3, q4, q5⟩ := BB.out rfl
              have QQ := Lib.hid (And.intro q1 (And.intro q2 (And.intro q3 (And.intro q4 q5))))
              clear q1 q2 q3 q4 q5
              go_wp2_with fail
              go_ret2
              refine ⟨⟨_, true, rfl, LS.out, (fun h => by cases h), fun _ => ⟨name2, L2, SO.out.1, ?_⟩⟩, K1.out.trans (KW2.out.trans K9.out (fun _ _ f => f) (fun _ _ f => f) : Kept (fun _ => False) W1 w9) (fun _ _ f => f) (fun _ _ f => f)⟩
              have h := SO.out.2
              rw [← QQ.out.1, ← QQ.out.2.1, ← QQ.out.2.2.1, ← QQ.out.2.2.2.1, ← QQ.out.2.2.2.2] at h
              exact h
        · subst hq
          have c0 : W2.cell? ⟨g, 0, none⟩ = some (.int .i64 9) := blk_cell A2.out 0
          have c1 : W2.cell? ⟨g, 1, none⟩ = some (.int .i64 nd) := blk_cell A2.out 1
          have c2 : W2.cell? ⟨g, 2, none⟩ = some (.int .i64 nn) := blk_cell A2.out 2
          have c3 : W2.cell? ⟨g, 3, none⟩ = some (.int .i64 tr) := blk_cell A2.out 3
          have c4 : W2.cell? ⟨g, 4, none⟩ = some (.int .i64 id) := blk_cell A2.out 4
          have c5 : W2.cell? ⟨g, 5, none⟩ = some (.int .i64 pa) := blk_cell A2.out 5
          have c6 : W2.cell? ⟨g, 6, none⟩ = some (.string se) := blk_cell A2.out 6
          have c7 : W2.cell? ⟨g, 7, none⟩ = some (.string ho) := blk_cell A2.out 7
          have c8 : W2.cell? ⟨g, 8, none⟩ = some (.int .i64 st) := blk_cell A2.out 8
          have c9 : W2.cell? ⟨g, 9, none⟩ = some (.int .i64 du) := blk_cell A2.out 9
          have c10 : W2.cell? ⟨g, 10, none⟩ = some (.string no) := blk_cell A2.out 10
          have c11 : W2.cell? ⟨g, 11, none⟩ = some (.slice ka ks.length kc) := blk_cell A2.out 11
          go_wp2_with fail
          refine (row_d (word := name) (keep_lit (ns := [nn]) (heap_second _ _ _) rfl) (by intro n hn; simp at hn; subst hn; exact IN.out.2.1) (by simp) (by have := NS.out; omega) (E1.out.tab.kept (KW2.out.trans (((Kept.refl (fun _ => False) W2).alloc _).alloc _) (fun _ _ f => f) (fun _ _ f => f) : Kept (fun _ => False) W1 _) (fun f => f))).mono ?_
          rintro e4 w4 ⟨⟨s4, rfl, l4, l5⟩, k4⟩
          have K4 := Lib.hid (Kept.trans (((Kept.refl (fun _ => False) W2).alloc _).alloc _) k4 (fun _ _ f => f) (fun _ _ f => f) : Kept (fun _ => False) W2 w4)
          have S4 := Lib.hid (show s4.size ≤ 100 from by have := NS.out; simp at l5; omega)
          clear k4 l4 l5
          go_wp2_with fail
          have KL := Lib.hid (K4.out : Kept (fun _ => False) W2 w4)
          have LS := Lib.hid (show s4.size ≤ 100000 from (by have := S4.out; omega))
          refine (read_d (w := w4) (by have := LS.out; omega) (E1.out.kept (KW2.out.trans KL.out (fun _ _ f => f) (fun _ _ f => f) : Kept (fun _ => False) W1 _) (fun _ _ f => f))).mono ?_
          rintro e7 w7 ⟨⟨u, ok, rfl, hok⟩, k7⟩
          have OK := Lib.hid hok
          have K7 := Lib.hid (KL.out.trans k7 (fun _ _ f => f) (fun _ _ f => f) : Kept (fun _ => False) W2 w7)
          have A7 := Lib.hid ((K7.out.block g (blk_lt A2.out) (fun f => f)).trans A2.out)
          have g7 := blk_lt A7.out
          clear hok k7
          cases ok with
          | false =>
            obtain ⟨uk, ud, un, ⟨ut, ui, up, us, uh, ux, uu, uo⟩, ua, ul, uc⟩ := u
            unfold Stp.val Stp.cells Spn.cells
            go_wp2_with fail
            go_roundg (leftOf es (seen.push e.born)).size
            case measure => rw [GK.out]; exact HSH.out
            case rel => exact ⟨seen.push e.born, rfl, (((K7.out.alloc _ : Kept (fun _ => False) W2 _)).block r (blk_lt R2.out) (fun f => f)).trans R2.out, KW2.out.trans (K7.out.alloc _) (fun _ _ f => f) (fun _ _ f => f)⟩
          | true =>
            obtain ⟨name2, L2, ki2, nd2, nn2, sp2, ks2, hw2, hso2, ⟨ka2, kc2, heq, hkp⟩, hlen2⟩ := OK.out rfl
            have hu := val_inj heq
            subst hu
            have SO := Lib.hid (And.intro hw2 hso2)
            have LN := Lib.hid hlen2
            have KP := Lib.hid (hkp.low (c := 0) (Nat.zero_le _))
            have SA := Lib.hid (fun (W : World) (K : Kept (fun _ => False) w7 W) => same_all (w := W) (ki1 := 9) (nd1 := nd) (nn1 := nn) (sp1 := ⟨tr, id, pa, se, ho, st, du, no⟩) (ki2 := ki2) (nd2 := nd2) (nn2 := nn2) (sp2 := sp2) (HKK.out.kept ((K1.out.trans KW2.out (fun _ _ f => f) (fun _ _ f => f) : Kept (fun _ => False) w W2).trans (K7.out.trans K (fun _ _ f => f) (fun _ _ f => f) : Kept (fun _ => False) W2 W) (fun _ _ f => f) (fun _ _ f => f) : Kept (fun _ => False) w W) (fun _ _ f => f)) (KP.out.kept K (fun _ _ f => f)) (by have := HKS.out; omega) LN.out)
            obtain ⟨tr2, id2, pa2, se2, ho2, st2, du2, no2⟩ := sp2
            unfold Stp.val Stp.cells Spn.cells at SA ⊢
            clear hw2 hso2 heq hkp hlen2 OK
            have d0 : w7.cell? ⟨g, 0, none⟩ = some (.int .i64 9) := blk_cell A7.out 0
            have d1 : w7.cell? ⟨g, 1, none⟩ = some (.int .i64 nd) := blk_cell A7.out 1
            have d2 : w7.cell? ⟨g, 2, none⟩ = some (.int .i64 nn) := blk_cell A7.out 2
            have d3 : w7.cell? ⟨g, 3, none⟩ = some (.int .i64 tr) := blk_cell A7.out 3
            have d4 : w7.cell? ⟨g, 4, none⟩ = some (.int .i64 id) := blk_cell A7.out 4
            have d5 : w7.cell? ⟨g, 5, none⟩ = some (.int .i64 pa) := blk_cell A7.out 5
            have d6 : w7.cell? ⟨g, 6, none⟩ = some (.string se) := blk_cell A7.out 6
            have d7 : w7.cell? ⟨g, 7, none⟩ = some (.string ho) := blk_cell A7.out 7
            have d8 : w7.cell? ⟨g, 8, none⟩ = some (.int .i64 st) := blk_cell A7.out 8
            have d9 : w7.cell? ⟨g, 9, none⟩ = some (.int .i64 du) := blk_cell A7.out 9
            have d10 : w7.cell? ⟨g, 10, none⟩ = some (.string no) := blk_cell A7.out 10
            have d11 : w7.cell? ⟨g, 11, none⟩ = some (.slice ka ks.length kc) := blk_cell A7.out 11
            go_wp2_with fail
            refine (SA.out _ ((Kept.refl _ _).alloc _)).mono ?_
            rintro e9 w9 ⟨⟨bb, rfl, hbb⟩, k9⟩
            have BB := Lib.hid hbb
            have K9 := Lib.hid (K7.out.trans (((Kept.refl (fun _ => False) w7).alloc _).trans k9 (fun _ _ f => f) (fun _ _ f => f)) (fun _ _ f => f) (fun _ _ f => f) : Kept (fun _ => False) W2 w9)
            clear hbb k9
            cases bb with
            | false =>
              go_wp2_with fail
              go_roundg (leftOf es (seen.push e.born)).size
              case measure => rw [GK.out]; exact HSH.out
              case rel => exact ⟨seen.push e.born, rfl, (K9.out.block r (blk_lt R2.out) (fun f => f)).trans R2.out, KW2.out.trans K9.out (fun _ _ f => f) (fun _ _ f => f)⟩
            | true =>
              obtain ⟨q1, q2, q3, q4, q5⟩ := BB.out rfl
              have QQ := Lib.hid (And.intro q1 (And.intro q2 (And.intro q3 (And.intro q4 q5))))
              clear q1 q2 q3 q4 q5
              go_wp2_with fail
              go_ret2
              refine ⟨⟨_, true, rfl, LS.out, (fun h => by cases h), fun _ => ⟨name2, L2, SO.out.1, ?_⟩⟩, K1.out.trans (KW2.out.trans K9.out (fun _ _ f => f) (fun _ _ f => f) : Kept (fun _ => False) W1 w9) (fun _ _ f => f) (fun _ _ f => f)⟩
              have h := SO.out.2
              rw [← QQ.out.1, ← QQ.out.2.1, ← QQ.out.2.2.1, ← QQ.out.2.2.2.1, ← QQ.out.2.2.2.2] at h
              exact h
        · subst hq
          have c0 : W2.cell? ⟨g, 0, none⟩ = some (.int .i64 10) := blk_cell A2.out 0
          have c1 : W2.cell? ⟨g, 1, none⟩ = some (.int .i64 nd) := blk_cell A2.out 1
          have c2 : W2.cell? ⟨g, 2, none⟩ = some (.int .i64 nn) := blk_cell A2.out 2
          have c3 : W2.cell? ⟨g, 3, none⟩ = some (.int .i64 tr) := blk_cell A2.out 3
          have c4 : W2.cell? ⟨g, 4, none⟩ = some (.int .i64 id) := blk_cell A2.out 4
          have c5 : W2.cell? ⟨g, 5, none⟩ = some (.int .i64 pa) := blk_cell A2.out 5
          have c6 : W2.cell? ⟨g, 6, none⟩ = some (.string se) := blk_cell A2.out 6
          have c7 : W2.cell? ⟨g, 7, none⟩ = some (.string ho) := blk_cell A2.out 7
          have c8 : W2.cell? ⟨g, 8, none⟩ = some (.int .i64 st) := blk_cell A2.out 8
          have c9 : W2.cell? ⟨g, 9, none⟩ = some (.int .i64 du) := blk_cell A2.out 9
          have c10 : W2.cell? ⟨g, 10, none⟩ = some (.string no) := blk_cell A2.out 10
          have c11 : W2.cell? ⟨g, 11, none⟩ = some (.slice ka ks.length kc) := blk_cell A2.out 11
          go_wp2_with fail
          refine (row_d (word := name) (keep_lit (ns := [nn]) (heap_second _ _ _) rfl) (by intro n hn; simp at hn; subst hn; exact IN.out.2.1) (by simp) (by have := NS.out; omega) (E1.out.tab.kept (KW2.out.trans (((Kept.refl (fun _ => False) W2).alloc _).alloc _) (fun _ _ f => f) (fun _ _ f => f) : Kept (fun _ => False) W1 _) (fun f => f))).mono ?_
          rintro e4 w4 ⟨⟨s4, rfl, l4, l5⟩, k4⟩
          have K4 := Lib.hid (Kept.trans (((Kept.refl (fun _ => False) W2).alloc _).alloc _) k4 (fun _ _ f => f) (fun _ _ f => f) : Kept (fun _ => False) W2 w4)
          have S4 := Lib.hid (show s4.size ≤ 100 from by have := NS.out; simp at l5; omega)
          clear k4 l4 l5
          go_wp2_with fail
          have KL := Lib.hid (K4.out : Kept (fun _ => False) W2 w4)
          have LS := Lib.hid (show s4.size ≤ 100000 from (by have := S4.out; omega))
          refine (read_d (w := w4) (by have := LS.out; omega) (E1.out.kept (KW2.out.trans KL.out (fun _ _ f => f) (fun _ _ f => f) : Kept (fun _ => False) W1 _) (fun _ _ f => f))).mono ?_
          rintro e7 w7 ⟨⟨u, ok, rfl, hok⟩, k7⟩
          have OK := Lib.hid hok
          have K7 := Lib.hid (KL.out.trans k7 (fun _ _ f => f) (fun _ _ f => f) : Kept (fun _ => False) W2 w7)
          have A7 := Lib.hid ((K7.out.block g (blk_lt A2.out) (fun f => f)).trans A2.out)
          have g7 := blk_lt A7.out
          clear hok k7
          cases ok with
          | false =>
            obtain ⟨uk, ud, un, ⟨ut, ui, up, us, uh, ux, uu, uo⟩, ua, ul, uc⟩ := u
            unfold Stp.val Stp.cells Spn.cells
            go_wp2_with fail
            go_roundg (leftOf es (seen.push e.born)).size
            case measure => rw [GK.out]; exact HSH.out
            case rel => exact ⟨seen.push e.born, rfl, (((K7.out.alloc _ : Kept (fun _ => False) W2 _)).block r (blk_lt R2.out) (fun f => f)).trans R2.out, KW2.out.trans (K7.out.alloc _) (fun _ _ f => f) (fun _ _ f => f)⟩
          | true =>
            obtain ⟨name2, L2, ki2, nd2, nn2, sp2, ks2, hw2, hso2, ⟨ka2, kc2, heq, hkp⟩, hlen2⟩ := OK.out rfl
            have hu := val_inj heq
            subst hu
            have SO := Lib.hid (And.intro hw2 hso2)
            have LN := Lib.hid hlen2
            have KP := Lib.hid (hkp.low (c := 0) (Nat.zero_le _))
            have SA := Lib.hid (fun (W : World) (K : Kept (fun _ => False) w7 W) => same_all (w := W) (ki1 := 10) (nd1 := nd) (nn1 := nn) (sp1 := ⟨tr, id, pa, se, ho, st, du, no⟩) (ki2 := ki2) (nd2 := nd2) (nn2 := nn2) (sp2 := sp2) (HKK.out.kept ((K1.out.trans KW2.out (fun _ _ f => f) (fun _ _ f => f) : Kept (fun _ => False) w W2).trans (K7.out.trans K (fun _ _ f => f) (fun _ _ f => f) : Kept (fun _ => False) W2 W) (fun _ _ f => f) (fun _ _ f => f) : Kept (fun _ => False) w W) (fun _ _ f => f)) (KP.out.kept K (fun _ _ f => f)) (by have := HKS.out; omega) LN.out)
            obtain ⟨tr2, id2, pa2, se2, ho2, st2, du2, no2⟩ := sp2
            unfold Stp.val Stp.cells Spn.cells at SA ⊢
            clear hw2 hso2 heq hkp hlen2 OK
            have d0 : w7.cell? ⟨g, 0, none⟩ = some (.int .i64 10) := blk_cell A7.out 0
            have d1 : w7.cell? ⟨g, 1, none⟩ = some (.int .i64 nd) := blk_cell A7.out 1
            have d2 : w7.cell? ⟨g, 2, none⟩ = some (.int .i64 nn) := blk_cell A7.out 2
            have d3 : w7.cell? ⟨g, 3, none⟩ = some (.int .i64 tr) := blk_cell A7.out 3
            have d4 : w7.cell? ⟨g, 4, none⟩ = some (.int .i64 id) := blk_cell A7.out 4
            have d5 : w7.cell? ⟨g, 5, none⟩ = some (.int .i64 pa) := blk_cell A7.out 5
            have d6 : w7.cell? ⟨g, 6, none⟩ = some (.string se) := blk_cell A7.out 6
            have d7 : w7.cell? ⟨g, 7, none⟩ = some (.string ho) := blk_cell A7.out 7
            have d8 : w7.cell? ⟨g, 8, none⟩ = some (.int .i64 st) := blk_cell A7.out 8
            have d9 : w7.cell? ⟨g, 9, none⟩ = some (.int .i64 du) := blk_cell A7.out 9
            have d10 : w7.cell? ⟨g, 10, none⟩ = some (.string no) := blk_cell A7.out 10
            have d11 : w7.cell? ⟨g, 11, none⟩ = some (.slice ka ks.length kc) := blk_cell A7.out 11
            go_wp2_with fail
            refine (SA.out _ ((Kept.refl _ _).alloc _)).mono ?_
            rintro e9 w9 ⟨⟨bb, rfl, hbb⟩, k9⟩
            have BB := Lib.hid hbb
            have K9 := Lib.hid (K7.out.trans (((Kept.refl (fun _ => False) w7).alloc _).trans k9 (fun _ _ f => f) (fun _ _ f => f)) (fun _ _ f => f) (fun _ _ f => f) : Kept (fun _ => False) W2 w9)
            clear hbb k9
            cases bb with
            | false =>
              go_wp2_with fail
              go_roundg (leftOf es (seen.push e.born)).size
              case measure => rw [GK.out]; exact HSH.out
              case rel => exact ⟨seen.push e.born, rfl, (K9.out.block r (blk_lt R2.out) (fun f => f)).trans R2.out, KW2.out.trans K9.out (fun _ _ f => f) (fun _ _ f => f)⟩
            | true =>
              obtain ⟨q1, q2, q3, q4, q5⟩ := BB.out rfl
              have QQ := Lib.hid (And.intro q1 (And.intro q2 (And.intro q3 (And.intro q4 q5))))
              clear q1 q2 q3 q4 q5
              go_wp2_with fail
              go_ret2
              refine ⟨⟨_, true, rfl, LS.out, (fun h => by cases h), fun _ => ⟨name2, L2, SO.out.1, ?_⟩⟩, K1.out.trans (KW2.out.trans K9.out (fun _ _ f => f) (fun _ _ f => f) : Kept (fun _ => False) W1 w9) (fun _ _ f => f) (fun _ _ f => f)⟩
              have h := SO.out.2
              rw [← QQ.out.1, ← QQ.out.2.1, ← QQ.out.2.2.1, ← QQ.out.2.2.2.1, ← QQ.out.2.2.2.2] at h
              exact h
      · have f1 : (k == ki) = false := by simpa using hk
        have f2 : (k != ki) = true := by simpa using hk
        clear hk
        have c0 : W2.cell? ⟨g, 0, none⟩ = some (.int .i64 ki) := blk_cell A2.out 0
        go_wp2_with fail
        go_roundg (leftOf es (seen.push e.born)).size
        case measure => rw [GK.out]; exact HSH.out
        case rel => exact ⟨seen.push e.born, rfl, (((Kept.refl (fun _ => False) W2).alloc _).block r (blk_lt R2.out) (fun f => f)).trans R2.out, KW2.out.trans ((Kept.refl (fun _ => False) W2).alloc _) (fun _ _ f => f) (fun _ _ f => f)⟩
set_option maxHeartbeats 60000000 in
set_option maxRecDepth 100000 in
theorem write_k3 {w : World} {ki nd nn : Int} {sp : Spn} {ka : Option Addr} {kc : Nat} {ks : List Int} (HK : KeepR w 0 (.slice ka ks.length kc) ks) (hks : ks.length ≤ 20) (E : Vr w) (h0 : In64 nd) (h6 : In64 nn) (h7 : ∀ n ∈ ks, In64 n) (h1 : In64 sp.tr) (h2 : In64 sp.id) (h3 : In64 sp.pa) (h4 : In64 sp.st) (h5 : In64 sp.du) (z1 : sp.se.size ≤ 1000) (z2 : sp.ho.size ≤ 1000) (z3 : sp.no.size ≤ 1000) (hG : ki = 11 ∨ ki = 12 ∨ ki = 13 ∨ ki = 14) :
    Calls Tryz.prog 9 #[Stp.val ⟨ki, nd, nn, sp, ka, ks.length, kc⟩] w fun e w' => WriteT e ki nd nn sp ks ∧ Kept (fun _ => False) w w' := by
  obtain ⟨g, hg⟩ : ∃ g, w.heap.size = g := ⟨_, rfl⟩
  have HG := Lib.hid hg
  obtain ⟨tr, id, pa, se, ho, st, du, no⟩ := sp
  dsimp only at h1 h2 h3 h4 h5 z1 z2 z3
  unfold Stp.val Stp.cells Spn.cells
  obtain ⟨W0, hW0⟩ : ∃ W, w.alloc (Obj.cells #[.int .i64 ki, .int .i64 nd, .int .i64 nn, .int .i64 tr, .int .i64 id, .int .i64 pa, .string se, .string ho, .int .i64 st, .int .i64 du, .string no, .slice ka ks.length kc] 38) = W := ⟨_, rfl⟩
  have k0 : Kept (fun _ => False) w W0 := by rw [← hW0]; exact (Kept.refl _ _).alloc _
  have a0 : W0.heap[g]? = some (Obj.cells #[.int .i64 ki, .int .i64 nd, .int .i64 nn, .int .i64 tr, .int .i64 id, .int .i64 pa, .string se, .string ho, .int .i64 st, .int .i64 du, .string no, .slice ka ks.length kc] 38 (0, 0)) := by rw [← hW0, ← hg]; exact heap_alloc_new w _
  have K0 := Lib.hid k0
  have A0 := Lib.hid a0
  have E0 := Lib.hid (E.kept k0 (fun _ _ f => f))
  have HKK := Lib.hid HK
  have HKS := Lib.hid hks
  have IN := Lib.hid (And.intro h0 (And.intro h6 h7))
  have SPI := Lib.hid (And.intro h1 (And.intro h2 (And.intro h3 (And.intro h4 (And.intro h5 (And.intro z1 (And.intro z2 z3)))))))
  have GG := Lib.hid hG
  clear hG HK hks E h0 h6 h7 h1 h2 h3 h4 h5 z1 z2 z3 k0 a0
  go_enter Tryz.func9, Tryz.ntmps9
  go_wp2_with fail
  clear hW0 hg
  refine (Ks.kinds_all W0).mono ?_
  rintro e W1 ⟨rfl, k1, m1⟩
  have RG := run_range_map (P := Tryz.prog) W1 60 9 62 W0.heap.size (Ks.entsL 0 Ks.kindsL).toArray 17 Ks.uMapN m1
  have K1 := Lib.hid (K0.out.trans k1 (fun _ _ f => f) (fun _ _ f => f) : Kept (fun _ => False) w W1)
  have A1 := Lib.hid ((k1.block g (blk_lt A0.out) (fun f => f)).trans A0.out)
  have M1 := Lib.hid m1
  have E1 := Lib.hid (E0.out.kept k1 (fun _ _ f => f))
  obtain ⟨bm, hbm⟩ : ∃ b, W0.heap.size = b := ⟨_, rfl⟩
  rw [hbm] at RG M1 ⊢
  obtain ⟨r, hr⟩ : ∃ b, W1.heap.size = b := ⟨_, rfl⟩
  rw [hr] at RG
  have HRR := Lib.hid (And.intro hbm hr)
  obtain ⟨es, hes⟩ : ∃ es, (Ks.entsL 0 Ks.kindsL).toArray = es := ⟨_, rfl⟩
  have ES := Lib.hid hes
  clear k1 m1 hbm hes
  go_wp2_with fail
  go_loopg [11] (leftOf es #[]).size (fun gh s wr => ∃ (seen : Array Nat), gh = (leftOf es seen).size ∧ wr.heap[r]? = some (.mapIter (some bm) 17 seen 17) ∧ Kept (fun _ => False) W1 wr)
  case atStart => exact ⟨#[], rfl, by rw [← hr]; exact heap_alloc_new W1 _, (Kept.refl _ _).alloc _⟩
  case round =>
    obtain ⟨seen, hgk, hit, hkw⟩ := hrel
    clear hr RG
    have GK := Lib.hid hgk
    have KW := Lib.hid hkw
    have MM := Lib.hid (M1.out.kept hkw (fun f => f))
    have hb : wr.heap[bm]? = some (.map es 17) := by
      have := MM.out
      unfold Ks.MapIs at this
      rw [ES.out] at this
      exact this
    have hold : ∀ x ∈ es.toList, x.born < 17 := fun x hx => by
      rw [← ES.out] at hx
      obtain ⟨_, _, _, _, _, _, h⟩ := ks_mem hx
      exact h
    rcases run_next_at (P := Tryz.prog) wr 0 r bm 17 17 seen es 17 hit hb hold (Nat.le_refl _) with ⟨hl, n1⟩ | ⟨e, he, w1, hw1, n1⟩
    · clear hit hb hold hl hgk hkw
      go_wp2_with fail
      go_ret2
      exact ⟨WriteT.no, K1.out.trans KW.out (fun _ _ f => f) (fun _ _ f => f)⟩
    · obtain ⟨hes2, hun⟩ := mem_left he
      have HSH := Lib.hid (left_shrinks es seen e he)
      have hes3 := hes2
      rw [← ES.out] at hes3
      obtain ⟨name, k, c, hrow, ek, ev, hbn⟩ := ks_mem hes3
      rw [ek, ev] at n1
      have HROW := Lib.hid hrow
      have kr : Kept (fun _ => False) wr w1 := by rcases hw1 with rfl | rfl
                                                  · exact Kept.refl _ _
                                                  · exact (Kept.refl _ _).drew
      have hr1 : w1.heap[r]? = some (.mapIter (some bm) 17 seen 17) := (kr.block _ (Array.getElem?_eq_some_iff.1 hit).1 (fun f => f)).trans hit
      obtain ⟨W2, hW2⟩ : ∃ W2, setBlock w1 r (.mapIter (some bm) 17 (seen.push e.born) 17) = W2 := ⟨_, rfl⟩
      rw [hW2] at n1
      have k2 : Kept (fun k => k = r) w1 W2 := by rw [← hW2]; exact Ks.kept_set (S := fun k => k = _) (Kept.refl _ _) (fun _ => rfl) _
      have hr2 : W2.heap[r]? = some (.mapIter (some bm) 17 (seen.push e.born) 17) := by rw [← hW2]; exact Ks.set_same _ (Array.getElem?_eq_some_iff.1 hr1).1
      have rge : W1.heap.size ≤ r := by have := HRR.out.2; omega
      have KW2 := Lib.hid ((KW.out.trans kr (fun _ _ f => f) (fun _ _ f => f)).trans k2 (fun _ _ f => f) (fun q hq hs => by omega) : Kept (fun _ => False) W1 W2)
      have hb2 : W2.heap[bm]? = some (.map es 17) := by
        have := M1.out.kept KW2.out (fun f => f)
        unfold Ks.MapIs at this
        rw [ES.out] at this
        exact this
      have n2 := run_entry_at (P := Tryz.prog) W2 r bm 17 seen es 17 e hr2 hb2 hes2 (by rw [← ES.out]; exact ks_once)
      rw [ek, ev] at n2
      have R2 := Lib.hid hr2
      have A2 := Lib.hid ((KW2.out.block g (blk_lt A1.out) (fun f => f)).trans A1.out)
      have c0 : W2.cell? ⟨g, 0, none⟩ = some (.int .i64 ki) := blk_cell A2.out 0
      have gl := blk_lt A2.out
      clear hw1 kr hr1 hW2 k2 hr2 hb2 hes2 hes3 hun ek ev hbn hit hb hold hgk hkw he hrow rge c0
      by_cases hk : k = ki
      · subst hk
        have NS := Lib.hid (row_name HROW.out).1
        rcases GG.out with hq | hq | hq | hq
        · subst hq
          have c0 : W2.cell? ⟨g, 0, none⟩ = some (.int .i64 11) := blk_cell A2.out 0
          have c1 : W2.cell? ⟨g, 1, none⟩ = some (.int .i64 nd) := blk_cell A2.out 1
          have c2 : W2.cell? ⟨g, 2, none⟩ = some (.int .i64 nn) := blk_cell A2.out 2
          have c3 : W2.cell? ⟨g, 3, none⟩ = some (.int .i64 tr) := blk_cell A2.out 3
          have c4 : W2.cell? ⟨g, 4, none⟩ = some (.int .i64 id) := blk_cell A2.out 4
          have c5 : W2.cell? ⟨g, 5, none⟩ = some (.int .i64 pa) := blk_cell A2.out 5
          have c6 : W2.cell? ⟨g, 6, none⟩ = some (.string se) := blk_cell A2.out 6
          have c7 : W2.cell? ⟨g, 7, none⟩ = some (.string ho) := blk_cell A2.out 7
          have c8 : W2.cell? ⟨g, 8, none⟩ = some (.int .i64 st) := blk_cell A2.out 8
          have c9 : W2.cell? ⟨g, 9, none⟩ = some (.int .i64 du) := blk_cell A2.out 9
          have c10 : W2.cell? ⟨g, 10, none⟩ = some (.string no) := blk_cell A2.out 10
          have c11 : W2.cell? ⟨g, 11, none⟩ = some (.slice ka ks.length kc) := blk_cell A2.out 11
          go_wp2_with fail
          refine (row_d (word := name) (keep_lit (ns := [nn]) (heap_second _ _ _) rfl) (by intro n hn; simp at hn; subst hn; exact IN.out.2.1) (by simp) (by have := NS.out; omega) (E1.out.tab.kept (KW2.out.trans (((Kept.refl (fun _ => False) W2).alloc _).alloc _) (fun _ _ f => f) (fun _ _ f => f) : Kept (fun _ => False) W1 _) (fun f => f))).mono ?_
          rintro e4 w4 ⟨⟨s4, rfl, l4, l5⟩, k4⟩
          have K4 := Lib.hid (Kept.trans (((Kept.refl (fun _ => False) W2).alloc _).alloc _) k4 (fun _ _ f => f) (fun _ _ f => f) : Kept (fun _ => False) W2 w4)
          have S4 := Lib.hid (show s4.size ≤ 100 from by have := NS.out; simp at l5; omega)
          clear k4 l4 l5
          go_wp2_with fail
          have KL := Lib.hid (K4.out : Kept (fun _ => False) W2 w4)
          have LS := Lib.hid (show s4.size ≤ 100000 from (by have := S4.out; omega))
          refine (read_d (w := w4) (by have := LS.out; omega) (E1.out.kept (KW2.out.trans KL.out (fun _ _ f => f) (fun _ _ f => f) : Kept (fun _ => False) W1 _) (fun _ _ f => f))).mono ?_
          rintro e7 w7 ⟨⟨u, ok, rfl, hok⟩, k7⟩
          have OK := Lib.hid hok
          have K7 := Lib.hid (KL.out.trans k7 (fun _ _ f => f) (fun _ _ f => f) : Kept (fun _ => False) W2 w7)
          have A7 := Lib.hid ((K7.out.block g (blk_lt A2.out) (fun f => f)).trans A2.out)
          have g7 := blk_lt A7.out
          clear hok k7
          cases ok with
          | false =>
            obtain ⟨uk, ud, un, ⟨ut, ui, up, us, uh, ux, uu, uo⟩, ua, ul, uc⟩ := u
            unfold Stp.val Stp.cells Spn.cells
            go_wp2_with fail
            go_roundg (leftOf es (seen.push e.born)).size
            case measure => rw [GK.out]; exact HSH.out
            case rel => exact ⟨seen.push e.born, rfl, (((K7.out.alloc _ : Kept (fun _ => False) W2 _)).block r (blk_lt R2.out) (fun f => f)).trans R2.out, KW2.out.trans (K7.out.alloc _) (fun _ _ f => f) (fun _ _ f => f)⟩
          | true =>
            obtain ⟨name2, L2, ki2, nd2, nn2, sp2, ks2, hw2, hso2, ⟨ka2, kc2, heq, hkp⟩, hlen2⟩ := OK.out rfl
            have hu := val_inj heq
            subst hu
            have SO := Lib.hid (And.intro hw2 hso2)
            have LN := Lib.hid hlen2
            have KP := Lib.hid (hkp.low (c := 0) (Nat.zero_le _))
            have SA := Lib.hid (fun (W : World) (K : Kept (fun _ => False) w7 W) => same_all (w := W) (ki1 := 11) (nd1 := nd) (nn1 := nn) (sp1 := ⟨tr, id, pa, se, ho, st, du, no⟩) (ki2 := ki2) (nd2 := nd2) (nn2 := nn2) (sp2 := sp2) (HKK.out.kept ((K1.out.trans KW2.out (fun _ _ f => f) (fun _ _ f => f) : Kept (fun _ => False) w W2).trans (K7.out.trans K (fun _ _ f => f) (fun _ _ f => f) : Kept (fun _ => False) W2 W) (fun _ _ f => f) (fun _ _ f => f) : Kept (fun _ => False) w W) (fun _ _ f => f)) (KP.out.kept K (fun _ _ f => f)) (by have := HKS.out; omega) LN.out)
            obtain ⟨tr2, id2, pa2, se2, ho2, st2, du2, no2⟩ := sp2
            unfold Stp.val Stp.cells Spn.cells at SA ⊢
            clear hw2 hso2 heq hkp hlen2 OK
            have d0 : w7.cell? ⟨g, 0, none⟩ = some (.int .i64 11) := blk_cell A7.out 0
            have d1 : w7.cell? ⟨g, 1, none⟩ = some (.int .i64 nd) := blk_cell A7.out 1
            have d2 : w7.cell? ⟨g, 2, none⟩ = some (.int .i64 nn) := blk_cell A7.out 2
            have d3 : w7.cell? ⟨g, 3, none⟩ = some (.int .i64 tr) := blk_cell A7.out 3
            have d4 : w7.cell? ⟨g, 4, none⟩ = some (.int .i64 id) := blk_cell A7.out 4
            have d5 : w7.cell? ⟨g, 5, none⟩ = some (.int .i64 pa) := blk_cell A7.out 5
            have d6 : w7.cell? ⟨g, 6, none⟩ = some (.string se) := blk_cell A7.out 6
            have d7 : w7.cell? ⟨g, 7, none⟩ = some (.string ho) := blk_cell A7.out 7
            have d8 : w7.cell? ⟨g, 8, none⟩ = some (.int .i64 st) := blk_cell A7.out 8
            have d9 : w7.cell? ⟨g, 9, none⟩ = some (.int .i64 du) := blk_cell A7.out 9
            have d10 : w7.cell? ⟨g, 10, none⟩ = some (.string no) := blk_cell A7.out 10
            have d11 : w7.cell? ⟨g, 11, none⟩ = some (.slice ka ks.length kc) := blk_cell A7.out 11
            go_wp2_with fail
            refine (SA.out _ ((Kept.refl _ _).alloc _)).mono ?_
            rintro e9 w9 ⟨⟨bb, rfl, hbb⟩, k9⟩
            have BB := Lib.hid hbb
            have K9 := Lib.hid (K7.out.trans (((Kept.refl (fun _ => False) w7).alloc _).trans k9 (fun _ _ f => f) (fun _ _ f => f)) (fun _ _ f => f) (fun _ _ f => f) : Kept (fun _ => False) W2 w9)
            clear hbb k9
            cases bb with
            | false =>
              go_wp2_with fail
              go_roundg (leftOf es (seen.push e.born)).size
              case measure => rw [GK.out]; exact HSH.out
              case rel => exact ⟨seen.push e.born, rfl, (K9.out.block r (blk_lt R2.out) (fun f => f)).trans R2.out, KW2.out.trans K9.out (fun _ _ f => f) (fun _ _ f => f)⟩
            | true =>
              obtain ⟨q1, q2, q3, q4, q5⟩ := BB.out rfl
              have QQ := Lib.hid (And.intro q1 (And.intro q2 (And.intro q3 (And.intro q4 q5))))
              clear q1 q2 q3 q4 q5
              go_wp2_with fail
              go_ret2
              refine ⟨⟨_, true, rfl, LS.out, (fun h => by cases h), fun _ => ⟨name2, L2, SO.out.1, ?_⟩⟩, K1.out.trans (KW2.out.trans K9.out (fun _ _ f => f) (fun _ _ f => f) : Kept (fun _ => False) W1 w9) (fun _ _ f => f) (fun _ _ f => f)⟩
              have h := SO.out.2
              rw [← QQ.out.1, ← QQ.out.2.1, ← QQ.out.2.2.1, ← QQ.out.2.2.2.1, ← QQ.out.2.2.2.2] at h
              exact h
        · subst hq
          have c0 : W2.cell? ⟨g, 0, none⟩ = some (.int .i64 12) := blk_cell A2.out 0
          have c1 : W2.cell? ⟨g, 1, none⟩ = some (.int .i64 nd) := blk_cell A2.out 1
          have c2 : W2.cell? ⟨g, 2, none⟩ = some (.int .i64 nn) := blk_cell A2.out 2
          have c3 : W2.cell? ⟨g, 3, none⟩ = some (.int .i64 tr) := blk_cell A2.out 3
          have c4 : W2.cell? ⟨g, 4, none⟩ = some (.int .i64 id) := blk_cell A2.out 4
          have c5 : W2.cell? ⟨g, 5, none⟩ = some (.int .i64 pa) := blk_cell A2.out 5
          have c6 : W2.cell? ⟨g, 6, none⟩ = some (.string se) := blk_cell A2.out 6
          have c7 : W2.cell? ⟨g, 7, none⟩ = some (.string ho) := blk_cell A2.out 7
          have c8 : W2.cell? ⟨g, 8, none⟩ = some (.int .i64 st) := blk_cell A2.out 8
          have c9 : W2.cell? ⟨g, 9, none⟩ = some (.int .i64 du) := blk_cell A2.out 9
          have c10 : W2.cell? ⟨g, 10, none⟩ = some (.string no) := blk_cell A2.out 10
          have c11 : W2.cell? ⟨g, 11, none⟩ = some (.slice ka ks.length kc) := blk_cell A2.out 11
          go_wp2_with fail
          refine (row_d (word := name) (keep_lit (ns := [nn]) (heap_second _ _ _) rfl) (by intro n hn; simp at hn; subst hn; exact IN.out.2.1) (by simp) (by have := NS.out; omega) (E1.out.tab.kept (KW2.out.trans (((Kept.refl (fun _ => False) W2).alloc _).alloc _) (fun _ _ f => f) (fun _ _ f => f) : Kept (fun _ => False) W1 _) (fun f => f))).mono ?_
          rintro e4 w4 ⟨⟨s4, rfl, l4, l5⟩, k4⟩
          have K4 := Lib.hid (Kept.trans (((Kept.refl (fun _ => False) W2).alloc _).alloc _) k4 (fun _ _ f => f) (fun _ _ f => f) : Kept (fun _ => False) W2 w4)
          have S4 := Lib.hid (show s4.size ≤ 100 from by have := NS.out; simp at l5; omega)
          clear k4 l4 l5
          go_wp2_with fail
          have KL := Lib.hid (K4.out : Kept (fun _ => False) W2 w4)
          have LS := Lib.hid (show s4.size ≤ 100000 from (by have := S4.out; omega))
          refine (read_d (w := w4) (by have := LS.out; omega) (E1.out.kept (KW2.out.trans KL.out (fun _ _ f => f) (fun _ _ f => f) : Kept (fun _ => False) W1 _) (fun _ _ f => f))).mono ?_
          rintro e7 w7 ⟨⟨u, ok, rfl, hok⟩, k7⟩
          have OK := Lib.hid hok
          have K7 := Lib.hid (KL.out.trans k7 (fun _ _ f => f) (fun _ _ f => f) : Kept (fun _ => False) W2 w7)
          have A7 := Lib.hid ((K7.out.block g (blk_lt A2.out) (fun f => f)).trans A2.out)
          have g7 := blk_lt A7.out
          clear hok k7
          cases ok with
          | false =>
            obtain ⟨uk, ud, un, ⟨ut, ui, up, us, uh, ux, uu, uo⟩, ua, ul, uc⟩ := u
            unfold Stp.val Stp.cells Spn.cells
            go_wp2_with fail
            go_roundg (leftOf es (seen.push e.born)).size
            case measure => rw [GK.out]; exact HSH.out
            case rel => exact ⟨seen.push e.born, rfl, (((K7.out.alloc _ : Kept (fun _ => False) W2 _)).block r (blk_lt R2.out) (fun f => f)).trans R2.out, KW2.out.trans (K7.out.alloc _) (fun _ _ f => f) (fun _ _ f => f)⟩
          | true =>
            obtain ⟨name2, L2, ki2, nd2, nn2, sp2, ks2, hw2, hso2, ⟨ka2, kc2, heq, hkp⟩, hlen2⟩ := OK.out rfl
            have hu := val_inj heq
            subst hu
            have SO := Lib.hid (And.intro hw2 hso2)
            have LN := Lib.hid hlen2
            have KP := Lib.hid (hkp.low (c := 0) (Nat.zero_le _))
            have SA := Lib.hid (fun (W : World) (K : Kept (fun _ => False) w7 W) => same_all (w := W) (ki1 := 12) (nd1 := nd) (nn1 := nn) (sp1 := ⟨tr, id, pa, se, ho, st, du, no⟩) (ki2 := ki2) (nd2 := nd2) (nn2 := nn2) (sp2 := sp2) (HKK.out.kept ((K1.out.trans KW2.out (fun _ _ f => f) (fun _ _ f => f) : Kept (fun _ => False) w W2).trans (K7.out.trans K (fun _ _ f => f) (fun _ _ f => f) : Kept (fun _ => False) W2 W) (fun _ _ f => f) (fun _ _ f => f) : Kept (fun _ => False) w W) (fun _ _ f => f)) (KP.out.kept K (fun _ _ f => f)) (by have := HKS.out; omega) LN.out)
            obtain ⟨tr2, id2, pa2, se2, ho2, st2, du2, no2⟩ := sp2
            unfold Stp.val Stp.cells Spn.cells at SA ⊢
            clear hw2 hso2 heq hkp hlen2 OK
            have d0 : w7.cell? ⟨g, 0, none⟩ = some (.int .i64 12) := blk_cell A7.out 0
            have d1 : w7.cell? ⟨g, 1, none⟩ = some (.int .i64 nd) := blk_cell A7.out 1
            have d2 : w7.cell? ⟨g, 2, none⟩ = some (.int .i64 nn) := blk_cell A7.out 2
            have d3 : w7.cell? ⟨g, 3, none⟩ = some (.int .i64 tr) := blk_cell A7.out 3
            have d4 : w7.cell? ⟨g, 4, none⟩ = some (.int .i64 id) := blk_cell A7.out 4
            have d5 : w7.cell? ⟨g, 5, none⟩ = some (.int .i64 pa) := blk_cell A7.out 5
            have d6 : w7.cell? ⟨g, 6, none⟩ = some (.string se) := blk_cell A7.out 6
            have d7 : w7.cell? ⟨g, 7, none⟩ = some (.string ho) := blk_cell A7.out 7
            have d8 : w7.cell? ⟨g, 8, none⟩ = some (.int .i64 st) := blk_cell A7.out 8
            have d9 : w7.cell? ⟨g, 9, none⟩ = some (.int .i64 du) := blk_cell A7.out 9
            have d10 : w7.cell? ⟨g, 10, none⟩ = some (.string no) := blk_cell A7.out 10
            have d11 : w7.cell? ⟨g, 11, none⟩ = some (.slice ka ks.length kc) := blk_cell A7.out 11
            go_wp2_with fail
            refine (SA.out _ ((Kept.refl _ _).alloc _)).mono ?_
            rintro e9 w9 ⟨⟨bb, rfl, hbb⟩, k9⟩
            have BB := Lib.hid hbb
            have K9 := Lib.hid (K7.out.trans (((Kept.refl (fun _ => False) w7).alloc _).trans k9 (fun _ _ f => f) (fun _ _ f => f)) (fun _ _ f => f) (fun _ _ f => f) : Kept (fun _ => False) W2 w9)
            clear hbb k9
            cases bb with
            | false =>
              go_wp2_with fail
              go_roundg (leftOf es (seen.push e.born)).size
              case measure => rw [GK.out]; exact HSH.out
              case rel => exact ⟨seen.push e.born, rfl, (K9.out.block r (blk_lt R2.out) (fun f => f)).trans R2.out, KW2.out.trans K9.out (fun _ _ f => f) (fun _ _ f => f)⟩
            | true =>
              obtain ⟨q1, q2, q3, q4, q5⟩ := BB.out rfl
              have QQ := Lib.hid (And.intro q1 (And.intro q2 (And.intro q3 (And.intro q4 q5))))
              clear q1 q2 q3 q4 q5
              go_wp2_with fail
              go_ret2
              refine ⟨⟨_, true, rfl, LS.out, (fun h => by cases h), fun _ => ⟨name2, L2, SO.out.1, ?_⟩⟩, K1.out.trans (KW2.out.trans K9.out (fun _ _ f => f) (fun _ _ f => f) : Kept (fun _ => False) W1 w9) (fun _ _ f => f) (fun _ _ f => f)⟩
              have h := SO.out.2
              rw [← QQ.out.1, ← QQ.out.2.1, ← QQ.out.2.2.1, ← QQ.out.2.2.2.1, ← QQ.out.2.2.2.2] at h
              exact h
        · subst hq
          have c0 : W2.cell? ⟨g, 0, none⟩ = some (.int .i64 13) := blk_cell A2.out 0
          have c1 : W2.cell? ⟨g, 1, none⟩ = some (.int .i64 nd) := blk_cell A2.out 1
          have c2 : W2.cell? ⟨g, 2, none⟩ = some (.int .i64 nn) := blk_cell A2.out 2
          have c3 : W2.cell? ⟨g, 3, none⟩ = some (.int .i64 tr) := blk_cell A2.out 3
          have c4 : W2.cell? ⟨g, 4, none⟩ = some (.int .i64 id) := blk_cell A2.out 4
          have c5 : W2.cell? ⟨g, 5, none⟩ = some (.int .i64 pa) := blk_cell A2.out 5
          have c6 : W2.cell? ⟨g, 6, none⟩ = some (.string se) := blk_cell A2.out 6
          have c7 : W2.cell? ⟨g, 7, none⟩ = some (.string ho) := blk_cell A2.out 7
          have c8 : W2.cell? ⟨g, 8, none⟩ = some (.int .i64 st) := blk_cell A2.out 8
          have c9 : W2.cell? ⟨g, 9, none⟩ = some (.int .i64 du) := blk_cell A2.out 9
          have c10 : W2.cell? ⟨g, 10, none⟩ = some (.string no) := blk_cell A2.out 10
          have c11 : W2.cell? ⟨g, 11, none⟩ = some (.slice ka ks.length kc) := blk_cell A2.out 11
          go_wp2_with fail
          refine (row_d (word := name) (keep_lit (ns := [nn]) (heap_second _ _ _) rfl) (by intro n hn; simp at hn; subst hn; exact IN.out.2.1) (by simp) (by have := NS.out; omega) (E1.out.tab.kept (KW2.out.trans (((Kept.refl (fun _ => False) W2).alloc _).alloc _) (fun _ _ f => f) (fun _ _ f => f) : Kept (fun _ => False) W1 _) (fun f => f))).mono ?_
          rintro e4 w4 ⟨⟨s4, rfl, l4, l5⟩, k4⟩
          have K4 := Lib.hid (Kept.trans (((Kept.refl (fun _ => False) W2).alloc _).alloc _) k4 (fun _ _ f => f) (fun _ _ f => f) : Kept (fun _ => False) W2 w4)
          have S4 := Lib.hid (show s4.size ≤ 100 from by have := NS.out; simp at l5; omega)
          clear k4 l4 l5
          go_wp2_with fail
          have KL := Lib.hid (K4.out : Kept (fun _ => False) W2 w4)
          have LS := Lib.hid (show s4.size ≤ 100000 from (by have := S4.out; omega))
          refine (read_d (w := w4) (by have := LS.out; omega) (E1.out.kept (KW2.out.trans KL.out (fun _ _ f => f) (fun _ _ f => f) : Kept (fun _ => False) W1 _) (fun _ _ f => f))).mono ?_
          rintro e7 w7 ⟨⟨u, ok, rfl, hok⟩, k7⟩
          have OK := Lib.hid hok
          have K7 := Lib.hid (KL.out.trans k7 (fun _ _ f => f) (fun _ _ f => f) : Kept (fun _ => False) W2 w7)
          have A7 := Lib.hid ((K7.out.block g (blk_lt A2.out) (fun f => f)).trans A2.out)
          have g7 := blk_lt A7.out
          clear hok k7
          cases ok with
          | false =>
            obtain ⟨uk, ud, un, ⟨ut, ui, up, us, uh, ux, uu, uo⟩, ua, ul, uc⟩ := u
            unfold Stp.val Stp.cells Spn.cells
            go_wp2_with fail
            go_roundg (leftOf es (seen.push e.born)).size
            case measure => rw [GK.out]; exact HSH.out
            case rel => exact ⟨seen.push e.born, rfl, (((K7.out.alloc _ : Kept (fun _ => False) W2 _)).block r (blk_lt R2.out) (fun f => f)).trans R2.out, KW2.out.trans (K7.out.alloc _) (fun _ _ f => f) (fun _ _ f => f)⟩
          | true =>
            obtain ⟨name2, L2, ki2, nd2, nn2, sp2, ks2, hw2, hso2, ⟨ka2, kc2, heq, hkp⟩, hlen2⟩ := OK.out rfl
            have hu := val_inj heq
            subst hu
            have SO := Lib.hid (And.intro hw2 hso2)
            have LN := Lib.hid hlen2
            have KP := Lib.hid (hkp.low (c := 0) (Nat.zero_le _))
            have SA := Lib.hid (fun (W : World) (K : Kept (fun _ => False) w7 W) => same_all (w := W) (ki1 := 13) (nd1 := nd) (nn1 := nn) (sp1 := ⟨tr, id, pa, se, ho, st, du, no⟩) (ki2 := ki2) (nd2 := nd2) (nn2 := nn2) (sp2 := sp2) (HKK.out.kept ((K1.out.trans KW2.out (fun _ _ f => f) (fun _ _ f => f) : Kept (fun _ => False) w W2).trans (K7.out.trans K (fun _ _ f => f) (fun _ _ f => f) : Kept (fun _ => False) W2 W) (fun _ _ f => f) (fun _ _ f => f) : Kept (fun _ => False) w W) (fun _ _ f => f)) (KP.out.kept K (fun _ _ f => f)) (by have := HKS.out; omega) LN.out)
            obtain ⟨tr2, id2, pa2, se2, ho2, st2, du2, no2⟩ := sp2
            unfold Stp.val Stp.cells Spn.cells at SA ⊢
            clear hw2 hso2 heq hkp hlen2 OK
            have d0 : w7.cell? ⟨g, 0, none⟩ = some (.int .i64 13) := blk_cell A7.out 0
            have d1 : w7.cell? ⟨g, 1, none⟩ = some (.int .i64 nd) := blk_cell A7.out 1
            have d2 : w7.cell? ⟨g, 2, none⟩ = some (.int .i64 nn) := blk_cell A7.out 2
            have d3 : w7.cell? ⟨g, 3, none⟩ = some (.int .i64 tr) := blk_cell A7.out 3
            have d4 : w7.cell? ⟨g, 4, none⟩ = some (.int .i64 id) := blk_cell A7.out 4
            have d5 : w7.cell? ⟨g, 5, none⟩ = some (.int .i64 pa) := blk_cell A7.out 5
            have d6 : w7.cell? ⟨g, 6, none⟩ = some (.string se) := blk_cell A7.out 6
            have d7 : w7.cell? ⟨g, 7, none⟩ = some (.string ho) := blk_cell A7.out 7
            have d8 : w7.cell? ⟨g, 8, none⟩ = some (.int .i64 st) := blk_cell A7.out 8
            have d9 : w7.cell? ⟨g, 9, none⟩ = some (.int .i64 du) := blk_cell A7.out 9
            have d10 : w7.cell? ⟨g, 10, none⟩ = some (.string no) := blk_cell A7.out 10
            have d11 : w7.cell? ⟨g, 11, none⟩ = some (.slice ka ks.length kc) := blk_cell A7.out 11
            go_wp2_with fail
            refine (SA.out _ ((Kept.refl _ _).alloc _)).mono ?_
            rintro e9 w9 ⟨⟨bb, rfl, hbb⟩, k9⟩
            have BB := Lib.hid hbb
            have K9 := Lib.hid (K7.out.trans (((Kept.refl (fun _ => False) w7).alloc _).trans k9 (fun _ _ f => f) (fun _ _ f => f)) (fun _ _ f => f) (fun _ _ f => f) : Kept (fun _ => False) W2 w9)
            clear hbb k9
            cases bb with
            | false =>
              go_wp2_with fail
              go_roundg (leftOf es (seen.push e.born)).size
              case measure => rw [GK.out]; exact HSH.out
              case rel => exact ⟨seen.push e.born, rfl, (K9.out.block r (blk_lt R2.out) (fun f => f)).trans R2.out, KW2.out.trans K9.out (fun _ _ f => f) (fun _ _ f => f)⟩
            | true =>
              obtain ⟨q1, q2, q3, q4, q5⟩ := BB.out rfl
              have QQ := Lib.hid (And.intro q1 (And.intro q2 (And.intro q3 (And.intro q4 q5))))
              clear q1 q2 q3 q4 q5
              go_wp2_with fail
              go_ret2
              refine ⟨⟨_, true, rfl, LS.out, (fun h => by cases h), fun _ => ⟨name2, L2, SO.out.1, ?_⟩⟩, K1.out.trans (KW2.out.trans K9.out (fun _ _ f => f) (fun _ _ f => f) : Kept (fun _ => False) W1 w9) (fun _ _ f => f) (fun _ _ f => f)⟩
              have h := SO.out.2
              rw [← QQ.out.1, ← QQ.out.2.1, ← QQ.out.2.2.1, ← QQ.out.2.2.2.1, ← QQ.out.2.2.2.2] at h
              exact h
        · subst hq
          have c0 : W2.cell? ⟨g, 0, none⟩ = some (.int .i64 14) := blk_cell A2.out 0
          have c1 : W2.cell? ⟨g, 1, none⟩ = some (.int .i64 nd) := blk_cell A2.out 1
          have c2 : W2.cell? ⟨g, 2, none⟩ = some (.int .i64 nn) := blk_cell A2.out 2
          have c3 : W2.cell? ⟨g, 3, none⟩ = some (.int .i64 tr) := blk_cell A2.out 3
          have c4 : W2.cell? ⟨g, 4, none⟩ = some (.int .i64 id) := blk_cell A2.out 4
          have c5 : W2.cell? ⟨g, 5, none⟩ = some (.int .i64 pa) := blk_cell A2.out 5
          have c6 : W2.cell? ⟨g, 6, none⟩ = some (.string se) := blk_cell A2.out 6
          have c7 : W2.cell? ⟨g, 7, none⟩ = some (.string ho) := blk_cell A2.out 7
          have c8 : W2.cell? ⟨g, 8, none⟩ = some (.int .i64 st) := blk_cell A2.out 8
          have c9 : W2.cell? ⟨g, 9, none⟩ = some (.int .i64 du) := blk_cell A2.out 9
          have c10 : W2.cell? ⟨g, 10, none⟩ = some (.string no) := blk_cell A2.out 10
          have c11 : W2.cell? ⟨g, 11, none⟩ = some (.slice ka ks.length kc) := blk_cell A2.out 11
          go_wp2_with fail
          have KL := Lib.hid ((Kept.refl (fun _ => False) W2).alloc (Obj.cells #[.int .i64 14, .int .i64 c] 62) : Kept (fun _ => False) W2 (W2.alloc (Obj.cells #[.int .i64 14, .int .i64 c] 62)))
          have LS := Lib.hid (show name.size ≤ 100000 from (by have := NS.out; omega))
          refine (read_d (w := (W2.alloc (Obj.cells #[.int .i64 14, .int .i64 c] 62))) (by have := LS.out; omega) (E1.out.kept (KW2.out.trans KL.out (fun _ _ f => f) (fun _ _ f => f) : Kept (fun _ => False) W1 _) (fun _ _ f => f))).mono ?_
          rintro e7 w7 ⟨⟨u, ok, rfl, hok⟩, k7⟩
          have OK := Lib.hid hok
          have K7 := Lib.hid (KL.out.trans k7 (fun _ _ f => f) (fun _ _ f => f) : Kept (fun _ => False) W2 w7)
          have A7 := Lib.hid ((K7.out.block g (blk_lt A2.out) (fun f => f)).trans A2.out)
          have g7 := blk_lt A7.out
          clear hok k7
          cases ok with
          | false =>
            obtain ⟨uk, ud, un, ⟨ut, ui, up, us, uh, ux, uu, uo⟩, ua, ul, uc⟩ := u
            unfold Stp.val Stp.cells Spn.cells
            go_wp2_with fail
            go_roundg (leftOf es (seen.push e.born)).size
            case measure => rw [GK.out]; exact HSH.out
            case rel => exact ⟨seen.push e.born, rfl, (((K7.out.alloc _ : Kept (fun _ => False) W2 _)).block r (blk_lt R2.out) (fun f => f)).trans R2.out, KW2.out.trans (K7.out.alloc _) (fun _ _ f => f) (fun _ _ f => f)⟩
          | true =>
            obtain ⟨name2, L2, ki2, nd2, nn2, sp2, ks2, hw2, hso2, ⟨ka2, kc2, heq, hkp⟩, hlen2⟩ := OK.out rfl
            have hu := val_inj heq
            subst hu
            have SO := Lib.hid (And.intro hw2 hso2)
            have LN := Lib.hid hlen2
            have KP := Lib.hid (hkp.low (c := 0) (Nat.zero_le _))
            have SA := Lib.hid (fun (W : World) (K : Kept (fun _ => False) w7 W) => same_all (w := W) (ki1 := 14) (nd1 := nd) (nn1 := nn) (sp1 := ⟨tr, id, pa, se, ho, st, du, no⟩) (ki2 := ki2) (nd2 := nd2) (nn2 := nn2) (sp2 := sp2) (HKK.out.kept ((K1.out.trans KW2.out (fun _ _ f => f) (fun _ _ f => f) : Kept (fun _ => False) w W2).trans (K7.out.trans K (fun _ _ f => f) (fun _ _ f => f) : Kept (fun _ => False) W2 W) (fun _ _ f => f) (fun _ _ f => f) : Kept (fun _ => False) w W) (fun _ _ f => f)) (KP.out.kept K (fun _ _ f => f)) (by have := HKS.out; omega) LN.out)
            obtain ⟨tr2, id2, pa2, se2, ho2, st2, du2, no2⟩ := sp2
            unfold Stp.val Stp.cells Spn.cells at SA ⊢
            clear hw2 hso2 heq hkp hlen2 OK
            have d0 : w7.cell? ⟨g, 0, none⟩ = some (.int .i64 14) := blk_cell A7.out 0
            have d1 : w7.cell? ⟨g, 1, none⟩ = some (.int .i64 nd) := blk_cell A7.out 1
            have d2 : w7.cell? ⟨g, 2, none⟩ = some (.int .i64 nn) := blk_cell A7.out 2
            have d3 : w7.cell? ⟨g, 3, none⟩ = some (.int .i64 tr) := blk_cell A7.out 3
            have d4 : w7.cell? ⟨g, 4, none⟩ = some (.int .i64 id) := blk_cell A7.out 4
            have d5 : w7.cell? ⟨g, 5, none⟩ = some (.int .i64 pa) := blk_cell A7.out 5
            have d6 : w7.cell? ⟨g, 6, none⟩ = some (.string se) := blk_cell A7.out 6
            have d7 : w7.cell? ⟨g, 7, none⟩ = some (.string ho) := blk_cell A7.out 7
            have d8 : w7.cell? ⟨g, 8, none⟩ = some (.int .i64 st) := blk_cell A7.out 8
            have d9 : w7.cell? ⟨g, 9, none⟩ = some (.int .i64 du) := blk_cell A7.out 9
            have d10 : w7.cell? ⟨g, 10, none⟩ = some (.string no) := blk_cell A7.out 10
            have d11 : w7.cell? ⟨g, 11, none⟩ = some (.slice ka ks.length kc) := blk_cell A7.out 11
            go_wp2_with fail
            refine (SA.out _ ((Kept.refl _ _).alloc _)).mono ?_
            rintro e9 w9 ⟨⟨bb, rfl, hbb⟩, k9⟩
            have BB := Lib.hid hbb
            have K9 := Lib.hid (K7.out.trans (((Kept.refl (fun _ => False) w7).alloc _).trans k9 (fun _ _ f => f) (fun _ _ f => f)) (fun _ _ f => f) (fun _ _ f => f) : Kept (fun _ => False) W2 w9)
            clear hbb k9
            cases bb with
            | false =>
              go_wp2_with fail
              go_roundg (leftOf es (seen.push e.born)).size
              case measure => rw [GK.out]; exact HSH.out
              case rel => exact ⟨seen.push e.born, rfl, (K9.out.block r (blk_lt R2.out) (fun f => f)).trans R2.out, KW2.out.trans K9.out (fun _ _ f => f) (fun _ _ f => f)⟩
            | true =>
              obtain ⟨q1, q2, q3, q4, q5⟩ := BB.out rfl
              have QQ := Lib.hid (And.intro q1 (And.intro q2 (And.intro q3 (And.intro q4 q5))))
              clear q1 q2 q3 q4 q5
              go_wp2_with fail
              go_ret2
              refine ⟨⟨_, true, rfl, LS.out, (fun h => by cases h), fun _ => ⟨name2, L2, SO.out.1, ?_⟩⟩, K1.out.trans (KW2.out.trans K9.out (fun _ _ f => f) (fun _ _ f => f) : Kept (fun _ => False) W1 w9) (fun _ _ f => f) (fun _ _ f => f)⟩
              have h := SO.out.2
              rw [← QQ.out.1, ← QQ.out.2.1, ← QQ.out.2.2.1, ← QQ.out.2.2.2.1, ← QQ.out.2.2.2.2] at h
              exact h
      · have f1 : (k == ki) = false := by simpa using hk
        have f2 : (k != ki) = true := by simpa using hk
        clear hk
        have c0 : W2.cell? ⟨g, 0, none⟩ = some (.int .i64 ki) := blk_cell A2.out 0
        go_wp2_with fail
        go_roundg (leftOf es (seen.push e.born)).size
        case measure => rw [GK.out]; exact HSH.out
        case rel => exact ⟨seen.push e.born, rfl, (((Kept.refl (fun _ => False) W2).alloc _).block r (blk_lt R2.out) (fun f => f)).trans R2.out, KW2.out.trans ((Kept.refl (fun _ => False) W2).alloc _) (fun _ _ f => f) (fun _ _ f => f)⟩
set_option maxHeartbeats 60000000 in
set_option maxRecDepth 100000 in
theorem write_k4 {w : World} {ki nd nn : Int} {sp : Spn} {ka : Option Addr} {kc : Nat} {ks : List Int} (HK : KeepR w 0 (.slice ka ks.length kc) ks) (hks : ks.length ≤ 20) (E : Vr w) (h0 : In64 nd) (h6 : In64 nn) (h7 : ∀ n ∈ ks, In64 n) (h1 : In64 sp.tr) (h2 : In64 sp.id) (h3 : In64 sp.pa) (h4 : In64 sp.st) (h5 : In64 sp.du) (z1 : sp.se.size ≤ 1000) (z2 : sp.ho.size ≤ 1000) (z3 : sp.no.size ≤ 1000) (hG : ki = 4 ∨ ki = 15 ∨ ki = 16) :
    Calls Tryz.prog 9 #[Stp.val ⟨ki, nd, nn, sp, ka, ks.length, kc⟩] w fun e w' => WriteT e ki nd nn sp ks ∧ Kept (fun _ => False) w w' := by
  obtain ⟨g, hg⟩ : ∃ g, w.heap.size = g := ⟨_, rfl⟩
  have HG := Lib.hid hg
  obtain ⟨tr, id, pa, se, ho, st, du, no⟩ := sp
  dsimp only at h1 h2 h3 h4 h5 z1 z2 z3
  unfold Stp.val Stp.cells Spn.cells
  obtain ⟨W0, hW0⟩ : ∃ W, w.alloc (Obj.cells #[.int .i64 ki, .int .i64 nd, .int .i64 nn, .int .i64 tr, .int .i64 id, .int .i64 pa, .string se, .string ho, .int .i64 st, .int .i64 du, .string no, .slice ka ks.length kc] 38) = W := ⟨_, rfl⟩
  have k0 : Kept (fun _ => False) w W0 := by rw [← hW0]; exact (Kept.refl _ _).alloc _
  have a0 : W0.heap[g]? = some (Obj.cells #[.int .i64 ki, .int .i64 nd, .int .i64 nn, .int .i64 tr, .int .i64 id, .int .i64 pa, .string se, .string ho, .int .i64 st, .int .i64 du, .string no, .slice ka ks.length kc] 38 (0, 0)) := by rw [← hW0, ← hg]; exact heap_alloc_new w _
  have K0 := Lib.hid k0
  have A0 := Lib.hid a0
  have E0 := Lib.hid (E.kept k0 (fun _ _ f => f))
  have HKK := Lib.hid HK
  have HKS := Lib.hid hks
  have IN := Lib.hid (And.intro h0 (And.intro h6 h7))
  have SPI := Lib.hid (And.intro h1 (And.intro h2 (And.intro h3 (And.intro h4 (And.intro h5 (And.intro z1 (And.intro z2 z3)))))))
  have GG := Lib.hid hG
  clear hG HK hks E h0 h6 h7 h1 h2 h3 h4 h5 z1 z2 z3 k0 a0
  go_enter Tryz.func9, Tryz.ntmps9
  go_wp2_with fail
  clear hW0 hg
  refine (Ks.kinds_all W0).mono ?_
  rintro e W1 ⟨rfl, k1, m1⟩
  have RG := run_range_map (P := Tryz.prog) W1 60 9 62 W0.heap.size (Ks.entsL 0 Ks.kindsL).toArray 17 Ks.uMapN m1
  have K1 := Lib.hid (K0.out.trans k1 (fun _ _ f => f) (fun _ _ f => f) : Kept (fun _ => False) w W1)
  have A1 := Lib.hid ((k1.block g (blk_lt A0.out) (fun f => f)).trans A0.out)
  have M1 := Lib.hid m1
  have E1 := Lib.hid (E0.out.kept k1 (fun _ _ f => f))
  obtain ⟨bm, hbm⟩ : ∃ b, W0.heap.size = b := ⟨_, rfl⟩
  rw [hbm] at RG M1 ⊢
  obtain ⟨r, hr⟩ : ∃ b, W1.heap.size = b := ⟨_, rfl⟩
  rw [hr] at RG
  have HRR := Lib.hid (And.intro hbm hr)
  obtain ⟨es, hes⟩ : ∃ es, (Ks.entsL 0 Ks.kindsL).toArray = es := ⟨_, rfl⟩
  have ES := Lib.hid hes
  clear k1 m1 hbm hes
  go_wp2_with fail
  go_loopg [11] (leftOf es #[]).size (fun gh s wr => ∃ (seen : Array Nat), gh = (leftOf es seen).size ∧ wr.heap[r]? = some (.mapIter (some bm) 17 seen 17) ∧ Kept (fun _ => False) W1 wr)
  case atStart => exact ⟨#[], rfl, by rw [← hr]; exact heap_alloc_new W1 _, (Kept.refl _ _).alloc _⟩
  case round =>
    obtain ⟨seen, hgk, hit, hkw⟩ := hrel
    clear hr RG
    have GK := Lib.hid hgk
    have KW := Lib.hid hkw
    have MM := Lib.hid (M1.out.kept hkw (fun f => f))
    have hb : wr.heap[bm]? = some (.map es 17) := by
      have := MM.out
      unfold Ks.MapIs at this
      rw [ES.out] at this
      exact this
    have hold : ∀ x ∈ es.toList, x.born < 17 := fun x hx => by
      rw [← ES.out] at hx
      obtain ⟨_, _, _, _, _, _, h⟩ := ks_mem hx
      exact h
    rcases run_next_at (P := Tryz.prog) wr 0 r bm 17 17 seen es 17 hit hb hold (Nat.le_refl _) with ⟨hl, n1⟩ | ⟨e, he, w1, hw1, n1⟩
    · clear hit hb hold hl hgk hkw
      go_wp2_with fail
      go_ret2
      exact ⟨WriteT.no, K1.out.trans KW.out (fun _ _ f => f) (fun _ _ f => f)⟩
    · obtain ⟨hes2, hun⟩ := mem_left he
      have HSH := Lib.hid (left_shrinks es seen e he)
      have hes3 := hes2
      rw [← ES.out] at hes3
      obtain ⟨name, k, c, hrow, ek, ev, hbn⟩ := ks_mem hes3
      rw [ek, ev] at n1
      have HROW := Lib.hid hrow
      have kr : Kept (fun _ => False) wr w1 := by rcases hw1 with rfl | rfl
                                                  · exact Kept.refl _ _
                                                  · exact (Kept.refl _ _).drew
      have hr1 : w1.heap[r]? = some (.mapIter (some bm) 17 seen 17) := (kr.block _ (Array.getElem?_eq_some_iff.1 hit).1 (fun f => f)).trans hit
      obtain ⟨W2, hW2⟩ : ∃ W2, setBlock w1 r (.mapIter (some bm) 17 (seen.push e.born) 17) = W2 := ⟨_, rfl⟩
      rw [hW2] at n1
      have k2 : Kept (fun k => k = r) w1 W2 := by rw [← hW2]; exact Ks.kept_set (S := fun k => k = _) (Kept.refl _ _) (fun _ => rfl) _
      have hr2 : W2.heap[r]? = some (.mapIter (some bm) 17 (seen.push e.born) 17) := by rw [← hW2]; exact Ks.set_same _ (Array.getElem?_eq_some_iff.1 hr1).1
      have rge : W1.heap.size ≤ r := by have := HRR.out.2; omega
      have KW2 := Lib.hid ((KW.out.trans kr (fun _ _ f => f) (fun _ _ f => f)).trans k2 (fun _ _ f => f) (fun q hq hs => by omega) : Kept (fun _ => False) W1 W2)
      have hb2 : W2.heap[bm]? = some (.map es 17) := by
        have := M1.out.kept KW2.out (fun f => f)
        unfold Ks.MapIs at this
        rw [ES.out] at this
        exact this
      have n2 := run_entry_at (P := Tryz.prog) W2 r bm 17 seen es 17 e hr2 hb2 hes2 (by rw [← ES.out]; exact ks_once)
      rw [ek, ev] at n2
      have R2 := Lib.hid hr2
      have A2 := Lib.hid ((KW2.out.block g (blk_lt A1.out) (fun f => f)).trans A1.out)
      have c0 : W2.cell? ⟨g, 0, none⟩ = some (.int .i64 ki) := blk_cell A2.out 0
      have gl := blk_lt A2.out
      clear hw1 kr hr1 hW2 k2 hr2 hb2 hes2 hes3 hun ek ev hbn hit hb hold hgk hkw he hrow rge c0
      by_cases hk : k = ki
      · subst hk
        have NS := Lib.hid (row_name HROW.out).1
        rcases GG.out with hq | hq | hq
        · subst hq
          have c0 : W2.cell? ⟨g, 0, none⟩ = some (.int .i64 4) := blk_cell A2.out 0
          have c1 : W2.cell? ⟨g, 1, none⟩ = some (.int .i64 nd) := blk_cell A2.out 1
          have c2 : W2.cell? ⟨g, 2, none⟩ = some (.int .i64 nn) := blk_cell A2.out 2
          have c3 : W2.cell? ⟨g, 3, none⟩ = some (.int .i64 tr) := blk_cell A2.out 3
          have c4 : W2.cell? ⟨g, 4, none⟩ = some (.int .i64 id) := blk_cell A2.out 4
          have c5 : W2.cell? ⟨g, 5, none⟩ = some (.int .i64 pa) := blk_cell A2.out 5
          have c6 : W2.cell? ⟨g, 6, none⟩ = some (.string se) := blk_cell A2.out 6
          have c7 : W2.cell? ⟨g, 7, none⟩ = some (.string ho) := blk_cell A2.out 7
          have c8 : W2.cell? ⟨g, 8, none⟩ = some (.int .i64 st) := blk_cell A2.out 8
          have c9 : W2.cell? ⟨g, 9, none⟩ = some (.int .i64 du) := blk_cell A2.out 9
          have c10 : W2.cell? ⟨g, 10, none⟩ = some (.string no) := blk_cell A2.out 10
          have c11 : W2.cell? ⟨g, 11, none⟩ = some (.slice ka ks.length kc) := blk_cell A2.out 11
          go_wp2_with fail
          refine (row_d (word := name) (keep_lit (ns := [nd, nn]) (heap_second _ _ _) rfl) (by intro n hn; simp at hn; rcases hn with rfl | rfl; exact IN.out.1; exact IN.out.2.1) (by simp) (by have := NS.out; omega) (E1.out.tab.kept (KW2.out.trans (((Kept.refl (fun _ => False) W2).alloc _).alloc _) (fun _ _ f => f) (fun _ _ f => f) : Kept (fun _ => False) W1 _) (fun f => f))).mono ?_
          rintro e4 w4 ⟨⟨s4, rfl, l4, l5⟩, k4⟩
          have K4 := Lib.hid (Kept.trans (((Kept.refl (fun _ => False) W2).alloc _).alloc _) k4 (fun _ _ f => f) (fun _ _ f => f) : Kept (fun _ => False) W2 w4)
          have S4 := Lib.hid (show s4.size ≤ 100 from by have := NS.out; simp at l5; omega)
          clear k4 l4 l5
          go_wp2_with fail
          have KL := Lib.hid (K4.out : Kept (fun _ => False) W2 w4)
          have LS := Lib.hid (show s4.size ≤ 100000 from (by have := S4.out; omega))
          refine (read_d (w := w4) (by have := LS.out; omega) (E1.out.kept (KW2.out.trans KL.out (fun _ _ f => f) (fun _ _ f => f) : Kept (fun _ => False) W1 _) (fun _ _ f => f))).mono ?_
          rintro e7 w7 ⟨⟨u, ok, rfl, hok⟩, k7⟩
          have OK := Lib.hid hok
          have K7 := Lib.hid (KL.out.trans k7 (fun _ _ f => f) (fun _ _ f => f) : Kept (fun _ => False) W2 w7)
          have A7 := Lib.hid ((K7.out.block g (blk_lt A2.out) (fun f => f)).trans A2.out)
          have g7 := blk_lt A7.out
          clear hok k7
          cases ok with
          | false =>
            obtain ⟨uk, ud, un, ⟨ut, ui, up, us, uh, ux, uu, uo⟩, ua, ul, uc⟩ := u
            unfold Stp.val Stp.cells Spn.cells
            go_wp2_with fail
            go_roundg (leftOf es (seen.push e.born)).size
            case measure => rw [GK.out]; exact HSH.out
            case rel => exact ⟨seen.push e.born, rfl, (((K7.out.alloc _ : Kept (fun _ => False) W2 _)).block r (blk_lt R2.out) (fun f => f)).trans R2.out, KW2.out.trans (K7.out.alloc _) (fun _ _ f => f) (fun _ _ f => f)⟩
          | true =>
            obtain ⟨name2, L2, ki2, nd2, nn2, sp2, ks2, hw2, hso2, ⟨ka2, kc2, heq, hkp⟩, hlen2⟩ := OK.out rfl
            have hu := val_inj heq
            subst hu
            have SO := Lib.hid (And.intro hw2 hso2)
            have LN := Lib.hid hlen2
            have KP := Lib.hid (hkp.low (c := 0) (Nat.zero_le _))
            have SA := Lib.hid (fun (W : World) (K : Kept (fun _ => False) w7 W) => same_all (w := W) (ki1 := 4) (nd1 := nd) (nn1 := nn) (sp1 := ⟨tr, id, pa, se, ho, st, du, no⟩) (ki2 := ki2) (nd2 := nd2) (nn2 := nn2) (sp2 := sp2) (HKK.out.kept ((K1.out.trans KW2.out (fun _ _ f => f) (fun _ _ f => f) : Kept (fun _ => False) w W2).trans (K7.out.trans K (fun _ _ f => f) (fun _ _ f => f) : Kept (fun _ => False) W2 W) (fun _ _ f => f) (fun _ _ f => f) : Kept (fun _ => False) w W) (fun _ _ f => f)) (KP.out.kept K (fun _ _ f => f)) (by have := HKS.out; omega) LN.out)
            obtain ⟨tr2, id2, pa2, se2, ho2, st2, du2, no2⟩ := sp2
            unfold Stp.val Stp.cells Spn.cells at SA ⊢
            clear hw2 hso2 heq hkp hlen2 OK
            have d0 : w7.cell? ⟨g, 0, none⟩ = some (.int .i64 4) := blk_cell A7.out 0
            have d1 : w7.cell? ⟨g, 1, none⟩ = some (.int .i64 nd) := blk_cell A7.out 1
            have d2 : w7.cell? ⟨g, 2, none⟩ = some (.int .i64 nn) := blk_cell A7.out 2
            have d3 : w7.cell? ⟨g, 3, none⟩ = some (.int .i64 tr) := blk_cell A7.out 3
            have d4 : w7.cell? ⟨g, 4, none⟩ = some (.int .i64 id) := blk_cell A7.out 4
            have d5 : w7.cell? ⟨g, 5, none⟩ = some (.int .i64 pa) := blk_cell A7.out 5
            have d6 : w7.cell? ⟨g, 6, none⟩ = some (.string se) := blk_cell A7.out 6
            have d7 : w7.cell? ⟨g, 7, none⟩ = some (.string ho) := blk_cell A7.out 7
            have d8 : w7.cell? ⟨g, 8, none⟩ = some (.int .i64 st) := blk_cell A7.out 8
            have d9 : w7.cell? ⟨g, 9, none⟩ = some (.int .i64 du) := blk_cell A7.out 9
            have d10 : w7.cell? ⟨g, 10, none⟩ = some (.string no) := blk_cell A7.out 10
            have d11 : w7.cell? ⟨g, 11, none⟩ = some (.slice ka ks.length kc) := blk_cell A7.out 11
            go_wp2_with fail
            refine (SA.out _ ((Kept.refl _ _).alloc _)).mono ?_
            rintro e9 w9 ⟨⟨bb, rfl, hbb⟩, k9⟩
            have BB := Lib.hid hbb
            have K9 := Lib.hid (K7.out.trans (((Kept.refl (fun _ => False) w7).alloc _).trans k9 (fun _ _ f => f) (fun _ _ f => f)) (fun _ _ f => f) (fun _ _ f => f) : Kept (fun _ => False) W2 w9)
            clear hbb k9
            cases bb with
            | false =>
              go_wp2_with fail
              go_roundg (leftOf es (seen.push e.born)).size
              case measure => rw [GK.out]; exact HSH.out
              case rel => exact ⟨seen.push e.born, rfl, (K9.out.block r (blk_lt R2.out) (fun f => f)).trans R2.out, KW2.out.trans K9.out (fun _ _ f => f) (fun _ _ f => f)⟩
            | true =>
              obtain ⟨q1, q2, q3, q4, q5⟩ := BB.out rfl
              have QQ := Lib.hid (And.intro q1 (And.intro q2 (And.intro q3 (And.intro q4 q5))))
              clear q1 q2 q3 q4 q5
              go_wp2_with fail
              go_ret2
              refine ⟨⟨_, true, rfl, LS.out, (fun h => by cases h), fun _ => ⟨name2, L2, SO.out.1, ?_⟩⟩, K1.out.trans (KW2.out.trans K9.out (fun _ _ f => f) (fun _ _ f => f) : Kept (fun _ => False) W1 w9) (fun _ _ f => f) (fun _ _ f => f)⟩
              have h := SO.out.2
              rw [← QQ.out.1, ← QQ.out.2.1, ← QQ.out.2.2.1, ← QQ.out.2.2.2.1, ← QQ.out.2.2.2.2] at h
              exact h
        · subst hq
          have c0 : W2.cell? ⟨g, 0, none⟩ = some (.int .i64 15) := blk_cell A2.out 0
          have c1 : W2.cell? ⟨g, 1, none⟩ = some (.int .i64 nd) := blk_cell A2.out 1
          have c2 : W2.cell? ⟨g, 2, none⟩ = some (.int .i64 nn) := blk_cell A2.out 2
          have c3 : W2.cell? ⟨g, 3, none⟩ = some (.int .i64 tr) := blk_cell A2.out 3
          have c4 : W2.cell? ⟨g, 4, none⟩ = some (.int .i64 id) := blk_cell A2.out 4
          have c5 : W2.cell? ⟨g, 5, none⟩ = some (.int .i64 pa) := blk_cell A2.out 5
          have c6 : W2.cell? ⟨g, 6, none⟩ = some (.string se) := blk_cell A2.out 6
          have c7 : W2.cell? ⟨g, 7, none⟩ = some (.string ho) := blk_cell A2.out 7
          have c8 : W2.cell? ⟨g, 8, none⟩ = some (.int .i64 st) := blk_cell A2.out 8
          have c9 : W2.cell? ⟨g, 9, none⟩ = some (.int .i64 du) := blk_cell A2.out 9
          have c10 : W2.cell? ⟨g, 10, none⟩ = some (.string no) := blk_cell A2.out 10
          have c11 : W2.cell? ⟨g, 11, none⟩ = some (.slice ka ks.length kc) := blk_cell A2.out 11
          go_wp2_with fail
          have KP := Lib.hid (fun (W : World) (K : Kept (fun _ => False) W2 W) => HKK.out.kept ((K1.out.trans KW2.out (fun _ _ f => f) (fun _ _ f => f) : Kept (fun _ => False) w W2).trans K (fun _ _ f => f) (fun _ _ f => f) : Kept (fun _ => False) w W) (fun _ _ f => f))
          have TB := Lib.hid (fun (W : World) (K : Kept (fun _ => False) W2 W) => (E1.out.tab.kept (KW2.out.trans K (fun _ _ f => f) (fun _ _ f => f) : Kept (fun _ => False) W1 W) (fun f => f)))
          go_region_held3 (fun w' => w'.cell? ⟨g, 1, none⟩ = some (.int .i64 nd) ∧ w'.cell? ⟨g, 11, none⟩ = some (.slice ka ks.length kc)) (first | go_keep | (go_split_ands; exact ⟨kk.cell (by assumption) (fun f => f), kk.cell (by assumption) (fun f => f)⟩))
            (first
              | (go_at_call 21; (have chk := S4); refine (row_d (word := s4) (KP.out _ KX.out) IN.out.2.2 (by have := HKS.out; omega) (by have := S4.out; omega) (TB.out _ KX.out)).mono ?_; rintro e5 w5 ⟨⟨s5, rfl, l4, l5⟩, kk⟩; (have K5 := Lib.hid (KX.out.trans kk (fun _ _ f => f) (fun _ _ f => f) : Kept (fun _ => False) W2 w5)); (have S5 := Lib.hid (show s5.size ≤ 10000 from (by have := S4.out; have := HKS.out; omega))); clear l4 l5)
              | (go_at_call 21; refine (row_d (word := name) (keep_lit (ns := [nd]) (by first | exact heap_second _ _ _ | exact heap_alloc_new _ _) rfl) (by intro n hn; simp at hn; subst hn; exact IN.out.1) (by simp) (by have := NS.out; omega) (TB.out _ (by repeat (first | exact Kept.refl _ _ | apply Kept.drew | apply Kept.alloc)))).mono ?_; rintro e4 w4 ⟨⟨s4, rfl, l4, l5⟩, kk⟩; (have KX := Lib.hid (Kept.trans (by repeat (first | exact Kept.refl _ _ | apply Kept.drew | apply Kept.alloc)) kk (fun _ _ f => f) (fun _ _ f => f) : Kept (fun _ => False) W2 w4)); (have S4 := Lib.hid (show s4.size ≤ 100 from (by have := NS.out; simp at l5; omega))); clear l4 l5))
          go_wp2_with fail
          have KL := Lib.hid (K5.out : Kept (fun _ => False) W2 w5)
          have LS := Lib.hid (show s5.size ≤ 100000 from (by have := S5.out; omega))
          refine (read_d (w := w5) (by have := LS.out; omega) (E1.out.kept (KW2.out.trans KL.out (fun _ _ f => f) (fun _ _ f => f) : Kept (fun _ => False) W1 _) (fun _ _ f => f))).mono ?_
          rintro e7 w7 ⟨⟨u, ok, rfl, hok⟩, k7⟩
          have OK := Lib.hid hok
          have K7 := Lib.hid (KL.out.trans k7 (fun _ _ f => f) (fun _ _ f => f) : Kept (fun _ => False) W2 w7)
          have A7 := Lib.hid ((K7.out.block g (blk_lt A2.out) (fun f => f)).trans A2.out)
          have g7 := blk_lt A7.out
          clear hok k7
          cases ok with
          | false =>
            obtain ⟨uk, ud, un, ⟨ut, ui, up, us, uh, ux, uu, uo⟩, ua, ul, uc⟩ := u
            unfold Stp.val Stp.cells Spn.cells
            go_wp2_with fail
            go_roundg (leftOf es (seen.push e.born)).size
            case measure => rw [GK.out]; exact HSH.out
            case rel => exact ⟨seen.push e.born, rfl, (((K7.out.alloc _ : Kept (fun _ => False) W2 _)).block r (blk_lt R2.out) (fun f => f)).trans R2.out, KW2.out.trans (K7.out.alloc _) (fun _ _ f => f) (fun _ _ f => f)⟩
          | true =>
            obtain ⟨name2, L2, ki2, nd2, nn2, sp2, ks2, hw2, hso2, ⟨ka2, kc2, heq, hkp⟩, hlen2⟩ := OK.out rfl
            have hu := val_inj heq
            subst hu
            have SO := Lib.hid (And.intro hw2 hso2)
            have LN := Lib.hid hlen2
            have KP := Lib.hid (hkp.low (c := 0) (Nat.zero_le _))
            have SA := Lib.hid (fun (W : World) (K : Kept (fun _ => False) w7 W) => same_all (w := W) (ki1 := 15) (nd1 := nd) (nn1 := nn) (sp1 := ⟨tr, id, pa, se, ho, st, du, no⟩) (ki2 := ki2) (nd2 := nd2) (nn2 := nn2) (sp2 := sp2) (HKK.out.kept ((K1.out.trans KW2.out (fun _ _ f => f) (fun _ _ f => f) : Kept (fun _ => False) w W2).trans (K7.out.trans K (fun _ _ f => f) (fun _ _ f => f) : Kept (fun _ => False) W2 W) (fun _ _ f => f) (fun _ _ f => f) : Kept (fun _ => False) w W) (fun _ _ f => f)) (KP.out.kept K (fun _ _ f => f)) (by have := HKS.out; omega) LN.out)
            obtain ⟨tr2, id2, pa2, se2, ho2, st2, du2, no2⟩ := sp2
            unfold Stp.val Stp.cells Spn.cells at SA ⊢
            clear hw2 hso2 heq hkp hlen2 OK
            have d0 : w7.cell? ⟨g, 0, none⟩ = some (.int .i64 15) := blk_cell A7.out 0
            have d1 : w7.cell? ⟨g, 1, none⟩ = some (.int .i64 nd) := blk_cell A7.out 1
            have d2 : w7.cell? ⟨g, 2, none⟩ = some (.int .i64 nn) := blk_cell A7.out 2
            have d3 : w7.cell? ⟨g, 3, none⟩ = some (.int .i64 tr) := blk_cell A7.out 3
            have d4 : w7.cell? ⟨g, 4, none⟩ = some (.int .i64 id) := blk_cell A7.out 4
            have d5 : w7.cell? ⟨g, 5, none⟩ = some (.int .i64 pa) := blk_cell A7.out 5
            have d6 : w7.cell? ⟨g, 6, none⟩ = some (.string se) := blk_cell A7.out 6
            have d7 : w7.cell? ⟨g, 7, none⟩ = some (.string ho) := blk_cell A7.out 7
            have d8 : w7.cell? ⟨g, 8, none⟩ = some (.int .i64 st) := blk_cell A7.out 8
            have d9 : w7.cell? ⟨g, 9, none⟩ = some (.int .i64 du) := blk_cell A7.out 9
            have d10 : w7.cell? ⟨g, 10, none⟩ = some (.string no) := blk_cell A7.out 10
            have d11 : w7.cell? ⟨g, 11, none⟩ = some (.slice ka ks.length kc) := blk_cell A7.out 11
            go_wp2_with fail
            refine (SA.out _ ((Kept.refl _ _).alloc _)).mono ?_
            rintro e9 w9 ⟨⟨bb, rfl, hbb⟩, k9⟩
            have BB := Lib.hid hbb
            have K9 := Lib.hid (K7.out.trans (((Kept.refl (fun _ => False) w7).alloc _).trans k9 (fun _ _ f => f) (fun _ _ f => f)) (fun _ _ f => f) (fun _ _ f => f) : Kept (fun _ => False) W2 w9)
            clear hbb k9
            cases bb with
            | false =>
              go_wp2_with fail
              go_roundg (leftOf es (seen.push e.born)).size
              case measure => rw [GK.out]; exact HSH.out
              case rel => exact ⟨seen.push e.born, rfl, (K9.out.block r (blk_lt R2.out) (fun f => f)).trans R2.out, KW2.out.trans K9.out (fun _ _ f => f) (fun _ _ f => f)⟩
            | true =>
              obtain ⟨q1, q2, q3, q4, q5⟩ := BB.out rfl
              have QQ := Lib.hid (And.intro q1 (And.intro q2 (And.intro q3 (And.intro q4 q5))))
              clear q1 q2 q3 q4 q5
              go_wp2_with fail
              go_ret2
              refine ⟨⟨_, true, rfl, LS.out, (fun h => by cases h), fun _ => ⟨name2, L2, SO.out.1, ?_⟩⟩, K1.out.trans (KW2.out.trans K9.out (fun _ _ f => f) (fun _ _ f => f) : Kept (fun _ => False) W1 w9) (fun _ _ f => f) (fun _ _ f => f)⟩
              have h := SO.out.2
              rw [← QQ.out.1, ← QQ.out.2.1, ← QQ.out.2.2.1, ← QQ.out.2.2.2.1, ← QQ.out.2.2.2.2] at h
              exact h
        · subst hq
          have c0 : W2.cell? ⟨g, 0, none⟩ = some (.int .i64 16) := blk_cell A2.out 0
          have c1 : W2.cell? ⟨g, 1, none⟩ = some (.int .i64 nd) := blk_cell A2.out 1
          have c2 : W2.cell? ⟨g, 2, none⟩ = some (.int .i64 nn) := blk_cell A2.out 2
          have c3 : W2.cell? ⟨g, 3, none⟩ = some (.int .i64 tr) := blk_cell A2.out 3
          have c4 : W2.cell? ⟨g, 4, none⟩ = some (.int .i64 id) := blk_cell A2.out 4
          have c5 : W2.cell? ⟨g, 5, none⟩ = some (.int .i64 pa) := blk_cell A2.out 5
          have c6 : W2.cell? ⟨g, 6, none⟩ = some (.string se) := blk_cell A2.out 6
          have c7 : W2.cell? ⟨g, 7, none⟩ = some (.string ho) := blk_cell A2.out 7
          have c8 : W2.cell? ⟨g, 8, none⟩ = some (.int .i64 st) := blk_cell A2.out 8
          have c9 : W2.cell? ⟨g, 9, none⟩ = some (.int .i64 du) := blk_cell A2.out 9
          have c10 : W2.cell? ⟨g, 10, none⟩ = some (.string no) := blk_cell A2.out 10
          have c11 : W2.cell? ⟨g, 11, none⟩ = some (.slice ka ks.length kc) := blk_cell A2.out 11
          go_wp2_with fail
          have KP := Lib.hid (fun (W : World) (K : Kept (fun _ => False) W2 W) => HKK.out.kept ((K1.out.trans KW2.out (fun _ _ f => f) (fun _ _ f => f) : Kept (fun _ => False) w W2).trans K (fun _ _ f => f) (fun _ _ f => f) : Kept (fun _ => False) w W) (fun _ _ f => f))
          have TB := Lib.hid (fun (W : World) (K : Kept (fun _ => False) W2 W) => (E1.out.tab.kept (KW2.out.trans K (fun _ _ f => f) (fun _ _ f => f) : Kept (fun _ => False) W1 W) (fun f => f)))
          go_region_held3 (fun w' => w'.cell? ⟨g, 1, none⟩ = some (.int .i64 nd) ∧ w'.cell? ⟨g, 2, none⟩ = some (.int .i64 nn) ∧ w'.cell? ⟨g, 11, none⟩ = some (.slice ka ks.length kc)) (first | go_keep | (go_split_ands; exact ⟨kk.cell (by assumption) (fun f => f), kk.cell (by assumption) (fun f => f), kk.cell (by assumption) (fun f => f)⟩))
            (first
              | (go_at_call 21; (have chk := S4); refine (row_d (word := s4) (KP.out _ KX.out) IN.out.2.2 (by have := HKS.out; omega) (by have := S4.out; omega) (TB.out _ KX.out)).mono ?_; rintro e5 w5 ⟨⟨s5, rfl, l4, l5⟩, kk⟩; (have K5 := Lib.hid (KX.out.trans kk (fun _ _ f => f) (fun _ _ f => f) : Kept (fun _ => False) W2 w5)); (have S5 := Lib.hid (show s5.size ≤ 10000 from (by have := S4.out; have := HKS.out; omega))); clear l4 l5)
              | (go_at_call 21; refine (row_d (word := name) (keep_lit (ns := [nd, nn]) (by first | exact heap_second _ _ _ | exact heap_alloc_new _ _) rfl) (by intro n hn; simp at hn; rcases hn with rfl | rfl; exact IN.out.1; exact IN.out.2.1) (by simp) (by have := NS.out; omega) (TB.out _ (by repeat (first | exact Kept.refl _ _ | apply Kept.drew | apply Kept.alloc)))).mono ?_; rintro e4 w4 ⟨⟨s4, rfl, l4, l5⟩, kk⟩; (have KX := Lib.hid (Kept.trans (by repeat (first | exact Kept.refl _ _ | apply Kept.drew | apply Kept.alloc)) kk (fun _ _ f => f) (fun _ _ f => f) : Kept (fun _ => False) W2 w4)); (have S4 := Lib.hid (show s4.size ≤ 100 from (by have := NS.out; simp at l5; omega))); clear l4 l5))
          go_wp2_with fail
          have KL := Lib.hid (K5.out : Kept (fun _ => False) W2 w5)
          have LS := Lib.hid (show s5.size ≤ 100000 from (by have := S5.out; omega))
          refine (read_d (w := w5) (by have := LS.out; omega) (E1.out.kept (KW2.out.trans KL.out (fun _ _ f => f) (fun _ _ f => f) : Kept (fun _ => False) W1 _) (fun _ _ f => f))).mono ?_
          rintro e7 w7 ⟨⟨u, ok, rfl, hok⟩, k7⟩
          have OK := Lib.hid hok
          have K7 := Lib.hid (KL.out.trans k7 (fun _ _ f => f) (fun _ _ f => f) : Kept (fun _ => False) W2 w7)
          have A7 := Lib.hid ((K7.out.block g (blk_lt A2.out) (fun f => f)).trans A2.out)
          have g7 := blk_lt A7.out
          clear hok k7
          cases ok with
          | false =>
            obtain ⟨uk, ud, un, ⟨ut, ui, up, us, uh, ux, uu, uo⟩, ua, ul, uc⟩ := u
            unfold Stp.val Stp.cells Spn.cells
            go_wp2_with fail
            go_roundg (leftOf es (seen.push e.born)).size
            case measure => rw [GK.out]; exact HSH.out
            case rel => exact ⟨seen.push e.born, rfl, (((K7.out.alloc _ : Kept (fun _ => False) W2 _)).block r (blk_lt R2.out) (fun f => f)).trans R2.out, KW2.out.trans (K7.out.alloc _) (fun _ _ f => f) (fun _ _ f => f)⟩
          | true =>
            obtain ⟨name2, L2, ki2, nd2, nn2, sp2, ks2, hw2, hso2, ⟨ka2, kc2, heq, hkp⟩, hlen2⟩ := OK.out rfl
            have hu := val_inj heq
            subst hu
            have SO := Lib.hid (And.intro hw2 hso2)
            have LN := Lib.hid hlen2
            have KP := Lib.hid (hkp.low (c := 0) (Nat.zero_le _))
            have SA := Lib.hid (fun (W : World) (K : Kept (fun _ => False) w7 W) => same_all (w := W) (ki1 := 16) (nd1 := nd) (nn1 := nn) (sp1 := ⟨tr, id, pa, se, ho, st, du, no⟩) (ki2 := ki2) (nd2 := nd2) (nn2 := nn2) (sp2 := sp2) (HKK.out.kept ((K1.out.trans KW2.out (fun _ _ f => f) (fun _ _ f => f) : Kept (fun _ => False) w W2).trans (K7.out.trans K (fun _ _ f => f) (fun _ _ f => f) : Kept (fun _ => False) W2 W) (fun _ _ f => f) (fun _ _ f => f) : Kept (fun _ => False) w W) (fun _ _ f => f)) (KP.out.kept K (fun _ _ f => f)) (by have := HKS.out; omega) LN.out)
            obtain ⟨tr2, id2, pa2, se2, ho2, st2, du2, no2⟩ := sp2
            unfold Stp.val Stp.cells Spn.cells at SA ⊢
            clear hw2 hso2 heq hkp hlen2 OK
            have d0 : w7.cell? ⟨g, 0, none⟩ = some (.int .i64 16) := blk_cell A7.out 0
            have d1 : w7.cell? ⟨g, 1, none⟩ = some (.int .i64 nd) := blk_cell A7.out 1
            have d2 : w7.cell? ⟨g, 2, none⟩ = some (.int .i64 nn) := blk_cell A7.out 2
            have d3 : w7.cell? ⟨g, 3, none⟩ = some (.int .i64 tr) := blk_cell A7.out 3
            have d4 : w7.cell? ⟨g, 4, none⟩ = some (.int .i64 id) := blk_cell A7.out 4
            have d5 : w7.cell? ⟨g, 5, none⟩ = some (.int .i64 pa) := blk_cell A7.out 5
            have d6 : w7.cell? ⟨g, 6, none⟩ = some (.string se) := blk_cell A7.out 6
            have d7 : w7.cell? ⟨g, 7, none⟩ = some (.string ho) := blk_cell A7.out 7
            have d8 : w7.cell? ⟨g, 8, none⟩ = some (.int .i64 st) := blk_cell A7.out 8
            have d9 : w7.cell? ⟨g, 9, none⟩ = some (.int .i64 du) := blk_cell A7.out 9
            have d10 : w7.cell? ⟨g, 10, none⟩ = some (.string no) := blk_cell A7.out 10
            have d11 : w7.cell? ⟨g, 11, none⟩ = some (.slice ka ks.length kc) := blk_cell A7.out 11
            go_wp2_with fail
            refine (SA.out _ ((Kept.refl _ _).alloc _)).mono ?_
            rintro e9 w9 ⟨⟨bb, rfl, hbb⟩, k9⟩
            have BB := Lib.hid hbb
            have K9 := Lib.hid (K7.out.trans (((Kept.refl (fun _ => False) w7).alloc _).trans k9 (fun _ _ f => f) (fun _ _ f => f)) (fun _ _ f => f) (fun _ _ f => f) : Kept (fun _ => False) W2 w9)
            clear hbb k9
            cases bb with
            | false =>
              go_wp2_with fail
              go_roundg (leftOf es (seen.push e.born)).size
              case measure => rw [GK.out]; exact HSH.out
              case rel => exact ⟨seen.push e.born, rfl, (K9.out.block r (blk_lt R2.out) (fun f => f)).trans R2.out, KW2.out.trans K9.out (fun _ _ f => f) (fun _ _ f => f)⟩
            | true =>
              obtain ⟨q1, q2, q3, q4, q5⟩ := BB.out rfl
              have QQ := Lib.hid (And.intro q1 (And.intro q2 (And.intro q3 (And.intro q4 q5))))
              clear q1 q2 q3 q4 q5
              go_wp2_with fail
              go_ret2
              refine ⟨⟨_, true, rfl, LS.out, (fun h => by cases h), fun _ => ⟨name2, L2, SO.out.1, ?_⟩⟩, K1.out.trans (KW2.out.trans K9.out (fun _ _ f => f) (fun _ _ f => f) : Kept (fun _ => False) W1 w9) (fun _ _ f => f) (fun _ _ f => f)⟩
              have h := SO.out.2
              rw [← QQ.out.1, ← QQ.out.2.1, ← QQ.out.2.2.1, ← QQ.out.2.2.2.1, ← QQ.out.2.2.2.2] at h
              exact h
      · have f1 : (k == ki) = false := by simpa using hk
        have f2 : (k != ki) = true := by simpa using hk
        clear hk
        have c0 : W2.cell? ⟨g, 0, none⟩ = some (.int .i64 ki) := blk_cell A2.out 0
        go_wp2_with fail
        go_roundg (leftOf es (seen.push e.born)).size
        case measure => rw [GK.out]; exact HSH.out
        case rel => exact ⟨seen.push e.born, rfl, (((Kept.refl (fun _ => False) W2).alloc _).block r (blk_lt R2.out) (fun f => f)).trans R2.out, KW2.out.trans ((Kept.refl (fun _ => False) W2).alloc _) (fun _ _ f => f) (fun _ _ f => f)⟩
set_option maxHeartbeats 60000000 in
set_option maxRecDepth 100000 in
theorem write_k5 {w : World} {ki nd nn : Int} {sp : Spn} {ka : Option Addr} {kc : Nat} {ks : List Int} (HK : KeepR w 0 (.slice ka ks.length kc) ks) (hks : ks.length ≤ 20) (E : Vr w) (h0 : In64 nd) (h6 : In64 nn) (h7 : ∀ n ∈ ks, In64 n) (h1 : In64 sp.tr) (h2 : In64 sp.id) (h3 : In64 sp.pa) (h4 : In64 sp.st) (h5 : In64 sp.du) (z1 : sp.se.size ≤ 1000) (z2 : sp.ho.size ≤ 1000) (z3 : sp.no.size ≤ 1000) (hG : ¬ ki = 1 ∧ ¬ ki = 7 ∧ ¬ ki = 8 ∧ ¬ ki = 9 ∧ ¬ ki = 10 ∧ ¬ ki = 11 ∧ ¬ ki = 12 ∧ ¬ ki = 13 ∧ ¬ ki = 14 ∧ ¬ ki = 4 ∧ ¬ ki = 15 ∧ ¬ ki = 16) :
    Calls Tryz.prog 9 #[Stp.val ⟨ki, nd, nn, sp, ka, ks.length, kc⟩] w fun e w' => WriteT e ki nd nn sp ks ∧ Kept (fun _ => False) w w' := by
  obtain ⟨g, hg⟩ : ∃ g, w.heap.size = g := ⟨_, rfl⟩
  have HG := Lib.hid hg
  obtain ⟨tr, id, pa, se, ho, st, du, no⟩ := sp
  dsimp only at h1 h2 h3 h4 h5 z1 z2 z3
  unfold Stp.val Stp.cells Spn.cells
  obtain ⟨W0, hW0⟩ : ∃ W, w.alloc (Obj.cells #[.int .i64 ki, .int .i64 nd, .int .i64 nn, .int .i64 tr, .int .i64 id, .int .i64 pa, .string se, .string ho, .int .i64 st, .int .i64 du, .string no, .slice ka ks.length kc] 38) = W := ⟨_, rfl⟩
  have k0 : Kept (fun _ => False) w W0 := by rw [← hW0]; exact (Kept.refl _ _).alloc _
  have a0 : W0.heap[g]? = some (Obj.cells #[.int .i64 ki, .int .i64 nd, .int .i64 nn, .int .i64 tr, .int .i64 id, .int .i64 pa, .string se, .string ho, .int .i64 st, .int .i64 du, .string no, .slice ka ks.length kc] 38 (0, 0)) := by rw [← hW0, ← hg]; exact heap_alloc_new w _
  have K0 := Lib.hid k0
  have A0 := Lib.hid a0
  have E0 := Lib.hid (E.kept k0 (fun _ _ f => f))
  have HKK := Lib.hid HK
  have HKS := Lib.hid hks
  have IN := Lib.hid (And.intro h0 (And.intro h6 h7))
  have SPI := Lib.hid (And.intro h1 (And.intro h2 (And.intro h3 (And.intro h4 (And.intro h5 (And.intro z1 (And.intro z2 z3)))))))
  have GG := Lib.hid hG
  clear hG HK hks E h0 h6 h7 h1 h2 h3 h4 h5 z1 z2 z3 k0 a0
  go_enter Tryz.func9, Tryz.ntmps9
  go_wp2_with fail
  clear hW0 hg
  refine (Ks.kinds_all W0).mono ?_
  rintro e W1 ⟨rfl, k1, m1⟩
  have RG := run_range_map (P := Tryz.prog) W1 60 9 62 W0.heap.size (Ks.entsL 0 Ks.kindsL).toArray 17 Ks.uMapN m1
  have K1 := Lib.hid (K0.out.trans k1 (fun _ _ f => f) (fun _ _ f => f) : Kept (fun _ => False) w W1)
  have A1 := Lib.hid ((k1.block g (blk_lt A0.out) (fun f => f)).trans A0.out)
  have M1 := Lib.hid m1
  have E1 := Lib.hid (E0.out.kept k1 (fun _ _ f => f))
  obtain ⟨bm, hbm⟩ : ∃ b, W0.heap.size = b := ⟨_, rfl⟩
  rw [hbm] at RG M1 ⊢
  obtain ⟨r, hr⟩ : ∃ b, W1.heap.size = b := ⟨_, rfl⟩
  rw [hr] at RG
  have HRR := Lib.hid (And.intro hbm hr)
  obtain ⟨es, hes⟩ : ∃ es, (Ks.entsL 0 Ks.kindsL).toArray = es := ⟨_, rfl⟩
  have ES := Lib.hid hes
  clear k1 m1 hbm hes
  go_wp2_with fail
  go_loopg [11] (leftOf es #[]).size (fun gh s wr => ∃ (seen : Array Nat), gh = (leftOf es seen).size ∧ wr.heap[r]? = some (.mapIter (some bm) 17 seen 17) ∧ Kept (fun _ => False) W1 wr)
  case atStart => exact ⟨#[], rfl, by rw [← hr]; exact heap_alloc_new W1 _, (Kept.refl _ _).alloc _⟩
  case round =>
    obtain ⟨seen, hgk, hit, hkw⟩ := hrel
    clear hr RG
    have GK := Lib.hid hgk
    have KW := Lib.hid hkw
    have MM := Lib.hid (M1.out.kept hkw (fun f => f))
    have hb : wr.heap[bm]? = some (.map es 17) := by
      have := MM.out
      unfold Ks.MapIs at this
      rw [ES.out] at this
      exact this
    have hold : ∀ x ∈ es.toList, x.born < 17 := fun x hx => by
      rw [← ES.out] at hx
      obtain ⟨_, _, _, _, _, _, h⟩ := ks_mem hx
      exact h
    rcases run_next_at (P := Tryz.prog) wr 0 r bm 17 17 seen es 17 hit hb hold (Nat.le_refl _) with ⟨hl, n1⟩ | ⟨e, he, w1, hw1, n1⟩
    · clear hit hb hold hl hgk hkw
      go_wp2_with fail
      go_ret2
      exact ⟨WriteT.no, K1.out.trans KW.out (fun _ _ f => f) (fun _ _ f => f)⟩
    · obtain ⟨hes2, hun⟩ := mem_left he
      have HSH := Lib.hid (left_shrinks es seen e he)
      have hes3 := hes2
      rw [← ES.out] at hes3
      obtain ⟨name, k, c, hrow, ek, ev, hbn⟩ := ks_mem hes3
      rw [ek, ev] at n1
      have HROW := Lib.hid hrow
      have kr : Kept (fun _ => False) wr w1 := by rcases hw1 with rfl | rfl
                                                  · exact Kept.refl _ _
                                                  · exact (Kept.refl _ _).drew
      have hr1 : w1.heap[r]? = some (.mapIter (some bm) 17 seen 17) := (kr.block _ (Array.getElem?_eq_some_iff.1 hit).1 (fun f => f)).trans hit
      obtain ⟨W2, hW2⟩ : ∃ W2, setBlock w1 r (.mapIter (some bm) 17 (seen.push e.born) 17) = W2 := ⟨_, rfl⟩
      rw [hW2] at n1
      have k2 : Kept (fun k => k = r) w1 W2 := by rw [← hW2]; exact Ks.kept_set (S := fun k => k = _) (Kept.refl _ _) (fun _ => rfl) _
      have hr2 : W2.heap[r]? = some (.mapIter (some bm) 17 (seen.push e.born) 17) := by rw [← hW2]; exact Ks.set_same _ (Array.getElem?_eq_some_iff.1 hr1).1
      have rge : W1.heap.size ≤ r := by have := HRR.out.2; omega
      have KW2 := Lib.hid ((KW.out.trans kr (fun _ _ f => f) (fun _ _ f => f)).trans k2 (fun _ _ f => f) (fun q hq hs => by omega) : Kept (fun _ => False) W1 W2)
      have hb2 : W2.heap[bm]? = some (.map es 17) := by
        have := M1.out.kept KW2.out (fun f => f)
        unfold Ks.MapIs at this
        rw [ES.out] at this
        exact this
      have n2 := run_entry_at (P := Tryz.prog) W2 r bm 17 seen es 17 e hr2 hb2 hes2 (by rw [← ES.out]; exact ks_once)
      rw [ek, ev] at n2
      have R2 := Lib.hid hr2
      have A2 := Lib.hid ((KW2.out.block g (blk_lt A1.out) (fun f => f)).trans A1.out)
      have c0 : W2.cell? ⟨g, 0, none⟩ = some (.int .i64 ki) := blk_cell A2.out 0
      have gl := blk_lt A2.out
      clear hw1 kr hr1 hW2 k2 hr2 hb2 hes2 hes3 hun ek ev hbn hit hb hold hgk hkw he hrow rge c0
      by_cases hk : k = ki
      · subst hk
        have NS := Lib.hid (row_name HROW.out).1
        obtain ⟨g1, g7, g8, g9, g10, g11, g12, g13, g14, g4, g15, g16⟩ := GG.out
        have t1 : (k == 1) = false := by simpa using g1
        have t7 : (k == 7) = false := by simpa using g7
        have t8 : (k == 8) = false := by simpa using g8
        have t9 : (k == 9) = false := by simpa using g9
        have t10 : (k == 10) = false := by simpa using g10
        have t11 : (k == 11) = false := by simpa using g11
        have t12 : (k == 12) = false := by simpa using g12
        have t13 : (k == 13) = false := by simpa using g13
        have t14 : (k == 14) = false := by simpa using g14
        have t4 : (k == 4) = false := by simpa using g4
        have t15 : (k == 15) = false := by simpa using g15
        have t16 : (k == 16) = false := by simpa using g16
        clear g1 g7 g8 g9 g10 g11 g12 g13 g14 g4 g15 g16
        have c0 : W2.cell? ⟨g, 0, none⟩ = some (.int .i64 k) := blk_cell A2.out 0
        have c1 : W2.cell? ⟨g, 1, none⟩ = some (.int .i64 nd) := blk_cell A2.out 1
        have c2 : W2.cell? ⟨g, 2, none⟩ = some (.int .i64 nn) := blk_cell A2.out 2
        have c3 : W2.cell? ⟨g, 3, none⟩ = some (.int .i64 tr) := blk_cell A2.out 3
        have c4 : W2.cell? ⟨g, 4, none⟩ = some (.int .i64 id) := blk_cell A2.out 4
        have c5 : W2.cell? ⟨g, 5, none⟩ = some (.int .i64 pa) := blk_cell A2.out 5
        have c6 : W2.cell? ⟨g, 6, none⟩ = some (.string se) := blk_cell A2.out 6
        have c7 : W2.cell? ⟨g, 7, none⟩ = some (.string ho) := blk_cell A2.out 7
        have c8 : W2.cell? ⟨g, 8, none⟩ = some (.int .i64 st) := blk_cell A2.out 8
        have c9 : W2.cell? ⟨g, 9, none⟩ = some (.int .i64 du) := blk_cell A2.out 9
        have c10 : W2.cell? ⟨g, 10, none⟩ = some (.string no) := blk_cell A2.out 10
        have c11 : W2.cell? ⟨g, 11, none⟩ = some (.slice ka ks.length kc) := blk_cell A2.out 11
        go_wp2_with fail
        refine (row_d (word := name) (keep_lit (ns := [nd]) (heap_second _ _ _) rfl) (by intro n hn; simp at hn; subst hn; exact IN.out.1) (by simp) (by have := NS.out; omega) (E1.out.tab.kept (KW2.out.trans (((Kept.refl (fun _ => False) W2).alloc _).alloc _) (fun _ _ f => f) (fun _ _ f => f) : Kept (fun _ => False) W1 _) (fun f => f))).mono ?_
        rintro e4 w4 ⟨⟨s4, rfl, l4, l5⟩, k4⟩
        have K4 := Lib.hid (Kept.trans (((Kept.refl (fun _ => False) W2).alloc _).alloc _) k4 (fun _ _ f => f) (fun _ _ f => f) : Kept (fun _ => False) W2 w4)
        have S4 := Lib.hid (show s4.size ≤ 100 from by have := NS.out; simp at l5; omega)
        clear k4 l4 l5
        go_wp2_with fail
        have KL := Lib.hid (K4.out : Kept (fun _ => False) W2 w4)
        have LS := Lib.hid (show s4.size ≤ 100000 from (by have := S4.out; omega))
        refine (read_d (w := w4) (by have := LS.out; omega) (E1.out.kept (KW2.out.trans KL.out (fun _ _ f => f) (fun _ _ f => f) : Kept (fun _ => False) W1 _) (fun _ _ f => f))).mono ?_
        rintro e7 w7 ⟨⟨u, ok, rfl, hok⟩, k7⟩
        have OK := Lib.hid hok
        have K7 := Lib.hid (KL.out.trans k7 (fun _ _ f => f) (fun _ _ f => f) : Kept (fun _ => False) W2 w7)
        have A7 := Lib.hid ((K7.out.block g (blk_lt A2.out) (fun f => f)).trans A2.out)
        have g7 := blk_lt A7.out
        clear hok k7
        cases ok with
        | false =>
          obtain ⟨uk, ud, un, ⟨ut, ui, up, us, uh, ux, uu, uo⟩, ua, ul, uc⟩ := u
          unfold Stp.val Stp.cells Spn.cells
          go_wp2_with fail
          go_roundg (leftOf es (seen.push e.born)).size
          case measure => rw [GK.out]; exact HSH.out
          case rel => exact ⟨seen.push e.born, rfl, (((K7.out.alloc _ : Kept (fun _ => False) W2 _)).block r (blk_lt R2.out) (fun f => f)).trans R2.out, KW2.out.trans (K7.out.alloc _) (fun _ _ f => f) (fun _ _ f => f)⟩
        | true =>
          obtain ⟨name2, L2, ki2, nd2, nn2, sp2, ks2, hw2, hso2, ⟨ka2, kc2, heq, hkp⟩, hlen2⟩ := OK.out rfl
          have hu := val_inj heq
          subst hu
          have SO := Lib.hid (And.intro hw2 hso2)
          have LN := Lib.hid hlen2
          have KP := Lib.hid (hkp.low (c := 0) (Nat.zero_le _))
          have SA := Lib.hid (fun (W : World) (K : Kept (fun _ => False) w7 W) => same_all (w := W) (ki1 := k) (nd1 := nd) (nn1 := nn) (sp1 := ⟨tr, id, pa, se, ho, st, du, no⟩) (ki2 := ki2) (nd2 := nd2) (nn2 := nn2) (sp2 := sp2) (HKK.out.kept ((K1.out.trans KW2.out (fun _ _ f => f) (fun _ _ f => f) : Kept (fun _ => False) w W2).trans (K7.out.trans K (fun _ _ f => f) (fun _ _ f => f) : Kept (fun _ => False) W2 W) (fun _ _ f => f) (fun _ _ f => f) : Kept (fun _ => False) w W) (fun _ _ f => f)) (KP.out.kept K (fun _ _ f => f)) (by have := HKS.out; omega) LN.out)
          obtain ⟨tr2, id2, pa2, se2, ho2, st2, du2, no2⟩ := sp2
          unfold Stp.val Stp.cells Spn.cells at SA ⊢
          clear hw2 hso2 heq hkp hlen2 OK
          have d0 : w7.cell? ⟨g, 0, none⟩ = some (.int .i64 k) := blk_cell A7.out 0
          have d1 : w7.cell? ⟨g, 1, none⟩ = some (.int .i64 nd) := blk_cell A7.out 1
          have d2 : w7.cell? ⟨g, 2, none⟩ = some (.int .i64 nn) := blk_cell A7.out 2
          have d3 : w7.cell? ⟨g, 3, none⟩ = some (.int .i64 tr) := blk_cell A7.out 3
          have d4 : w7.cell? ⟨g, 4, none⟩ = some (.int .i64 id) := blk_cell A7.out 4
          have d5 : w7.cell? ⟨g, 5, none⟩ = some (.int .i64 pa) := blk_cell A7.out 5
          have d6 : w7.cell? ⟨g, 6, none⟩ = some (.string se) := blk_cell A7.out 6
          have d7 : w7.cell? ⟨g, 7, none⟩ = some (.string ho) := blk_cell A7.out 7
          have d8 : w7.cell? ⟨g, 8, none⟩ = some (.int .i64 st) := blk_cell A7.out 8
          have d9 : w7.cell? ⟨g, 9, none⟩ = some (.int .i64 du) := blk_cell A7.out 9
          have d10 : w7.cell? ⟨g, 10, none⟩ = some (.string no) := blk_cell A7.out 10
          have d11 : w7.cell? ⟨g, 11, none⟩ = some (.slice ka ks.length kc) := blk_cell A7.out 11
          go_wp2_with fail
          refine (SA.out _ ((Kept.refl _ _).alloc _)).mono ?_
          rintro e9 w9 ⟨⟨bb, rfl, hbb⟩, k9⟩
          have BB := Lib.hid hbb
          have K9 := Lib.hid (K7.out.trans (((Kept.refl (fun _ => False) w7).alloc _).trans k9 (fun _ _ f => f) (fun _ _ f => f)) (fun _ _ f => f) (fun _ _ f => f) : Kept (fun _ => False) W2 w9)
          clear hbb k9
          cases bb with
          | false =>
            go_wp2_with fail
            go_roundg (leftOf es (seen.push e.born)).size
            case measure => rw [GK.out]; exact HSH.out
            case rel => exact ⟨seen.push e.born, rfl, (K9.out.block r (blk_lt R2.out) (fun f => f)).trans R2.out, KW2.out.trans K9.out (fun _ _ f => f) (fun _ _ f => f)⟩
          | true =>
            obtain ⟨q1, q2, q3, q4, q5⟩ := BB.out rfl
            have QQ := Lib.hid (And.intro q1 (And.intro q2 (And.intro q3 (And.intro q4 q5))))
            clear q1 q2 q3 q4 q5
            go_wp2_with fail
            go_ret2
            refine ⟨⟨_, true, rfl, LS.out, (fun h => by cases h), fun _ => ⟨name2, L2, SO.out.1, ?_⟩⟩, K1.out.trans (KW2.out.trans K9.out (fun _ _ f => f) (fun _ _ f => f) : Kept (fun _ => False) W1 w9) (fun _ _ f => f) (fun _ _ f => f)⟩
            have h := SO.out.2
            rw [← QQ.out.1, ← QQ.out.2.1, ← QQ.out.2.2.1, ← QQ.out.2.2.2.1, ← QQ.out.2.2.2.2] at h
            exact h
      · have f1 : (k == ki) = false := by simpa using hk
        have f2 : (k != ki) = true := by simpa using hk
        clear hk
        have c0 : W2.cell? ⟨g, 0, none⟩ = some (.int .i64 ki) := blk_cell A2.out 0
        go_wp2_with fail
        go_roundg (leftOf es (seen.push e.born)).size
        case measure => rw [GK.out]; exact HSH.out
        case rel => exact ⟨seen.push e.born, rfl, (((Kept.refl (fun _ => False) W2).alloc _).block r (blk_lt R2.out) (fun f => f)).trans R2.out, KW2.out.trans ((Kept.refl (fun _ => False) W2).alloc _) (fun _ _ f => f) (fun _ _ f => f)⟩
theorem write_d {w : World} {ki nd nn : Int} {sp : Spn} {ka : Option Addr} {kc : Nat} {ks : List Int} (HK : KeepR w 0 (.slice ka ks.length kc) ks) (hks : ks.length ≤ 20) (E : Vr w) (h0 : In64 nd) (h6 : In64 nn) (h7 : ∀ n ∈ ks, In64 n) (h1 : In64 sp.tr) (h2 : In64 sp.id) (h3 : In64 sp.pa) (h4 : In64 sp.st) (h5 : In64 sp.du) (z1 : sp.se.size ≤ 1000) (z2 : sp.ho.size ≤ 1000) (z3 : sp.no.size ≤ 1000) :
    Calls Tryz.prog 9 #[Stp.val ⟨ki, nd, nn, sp, ka, ks.length, kc⟩] w fun e w' => WriteT e ki nd nn sp ks ∧ Kept (fun _ => False) w w' := by
  by_cases n1 : ki = 1
  · have h := n1
    exact write_k1 HK hks E h0 h6 h7 h1 h2 h3 h4 h5 z1 z2 z3 (h)
  by_cases n7 : ki = 7
  · have h := n7
    exact write_k2 HK hks E h0 h6 h7 h1 h2 h3 h4 h5 z1 z2 z3 (.inl h)
  by_cases n8 : ki = 8
  · have h := n8
    exact write_k2 HK hks E h0 h6 h7 h1 h2 h3 h4 h5 z1 z2 z3 (.inr (.inl h))
  by_cases n9 : ki = 9
  · have h := n9
    exact write_k2 HK hks E h0 h6 h7 h1 h2 h3 h4 h5 z1 z2 z3 (.inr (.inr (.inl h)))
  by_cases n10 : ki = 10
  · have h := n10
    exact write_k2 HK hks E h0 h6 h7 h1 h2 h3 h4 h5 z1 z2 z3 (.inr (.inr (.inr h)))
  by_cases n11 : ki = 11
  · have h := n11
    exact write_k3 HK hks E h0 h6 h7 h1 h2 h3 h4 h5 z1 z2 z3 (.inl h)
  by_cases n12 : ki = 12
  · have h := n12
    exact write_k3 HK hks E h0 h6 h7 h1 h2 h3 h4 h5 z1 z2 z3 (.inr (.inl h))
  by_cases n13 : ki = 13
  · have h := n13
    exact write_k3 HK hks E h0 h6 h7 h1 h2 h3 h4 h5 z1 z2 z3 (.inr (.inr (.inl h)))
  by_cases n14 : ki = 14
  · have h := n14
    exact write_k3 HK hks E h0 h6 h7 h1 h2 h3 h4 h5 z1 z2 z3 (.inr (.inr (.inr h)))
  by_cases n4 : ki = 4
  · have h := n4
    exact write_k4 HK hks E h0 h6 h7 h1 h2 h3 h4 h5 z1 z2 z3 (.inl h)
  by_cases n15 : ki = 15
  · have h := n15
    exact write_k4 HK hks E h0 h6 h7 h1 h2 h3 h4 h5 z1 z2 z3 (.inr (.inl h))
  by_cases n16 : ki = 16
  · have h := n16
    exact write_k4 HK hks E h0 h6 h7 h1 h2 h3 h4 h5 z1 z2 z3 (.inr (.inr h))
  exact write_k5 HK hks E h0 h6 h7 h1 h2 h3 h4 h5 z1 z2 z3 ⟨n1, n7, n8, n9, n10, n11, n12, n13, n14, n4, n15, n16⟩
end Go.Proofs.YtelhdbkkigehgaaGreatDoor

