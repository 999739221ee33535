/- A part of the proof. -/
import Derived.Test.YtelhdbkkigehgaaGreatDoorDs6

/- Printed by port_model.py out of the Model seat. -/
namespace Go.Proofs.YtelhdbkkigehgaaGreatDoor
open Go.RowKit Go.MapKept Go.Instr Go.ChangeMaps

set_option maxRecDepth 100000 in
theorem none_not (p po b : Nat) (w : World) (h : w.cell? ⟨p, po, none⟩ = some (.map (some b))) : Calls Tryz.prog 337 #[.pointer (some ⟨p, po, none⟩)] w fun e w' => e = .returned (.bool false) ∧ w = w' := by
  have q68 : ∀ (w : World) (r : Option Nat), (binOp .eql 436 (.map r) (.map none)).run Tryz.prog w = .ok (.bool r.isNone) w := fun w r => run_eql_map_nil w _ _ _ r Tryz.underlying436
  go_enter Tryz.func337, Tryz.ntmps337
  go_wp2
  go_ret
  exact ⟨rfl, rfl⟩

/-- A model's block p, whose map lies in block b and holds these. -/
structure ModelAt (w : World) (p po b : Nat) (M : List Spn) : Prop where
  cell : w.cell? ⟨p, po, none⟩ = some (.map (some b))
  map : MapIs w b (kvM M)
  may : ∀ m ∈ M, chkB m = true
theorem ModelAt.kept {S : Nat → Prop} {w w' : World} {p po b : Nat} {M : List Spn} (h : ModelAt w p po b M) (hK : Kept S w w') (h1 : ¬ S p) (h2 : ¬ S b) : ModelAt w' p po b M := ⟨hK.cell h.cell h1, h.map.kept hK h2, h.may⟩
theorem ModelAt.keptF {w w' : World} {p po b : Nat} {M : List Spn} (h : ModelAt w p po b M) (hK : Kept (fun _ => False) w w') : ModelAt w' p po b M := h.kept hK (fun f => f) (fun f => f)
theorem look_at {w : World} {b : Nat} {M : List Spn} (h : MapIs w b (kvM M)) (x y : Int) : (Instr.lookup 436 (.map (some b)) (.agg #[.int .i64 x, .int .i64 y]) true).run Tryz.prog w = .ok (.tuple #[aggS ((lookM (x, y) M).getD zeroS), .bool (lookM (x, y) M).isSome]) w := by
  have h2 := look68 h (x, y)
  rw [old_kvM, idx_kvM] at h2
  exact h2
theorem seen_at {w : World} {b : Nat} {K : List (Int × Int)} (h : MapIs w b (kvS K)) (x y : Int) : (Instr.lookup 546 (.map (some b)) (.agg #[.int .i64 x, .int .i64 y]) false).run Tryz.prog w = .ok (.int .i64 (oneN (decide ((x, y) ∈ K)))) w := by
  have h2 := look72 h (x, y)
  rw [old_kvS] at h2
  exact h2
theorem drop_step {L : List Spn} {i : Nat} {m : Spn} (h : L[i]? = some m) : m :: L.drop (i + 1) = L.drop i := by
  obtain ⟨hl, e⟩ := List.getElem?_eq_some_iff.1 h
  rw [← e]; exact (List.drop_eq_getElem_cons hl).symm
/-- Texts whose lengths are numbers. -/
def Fits (m : Spn) : Prop := m.se.size ≤ 9223372036854775807 ∧ m.ho.size ≤ 9223372036854775807 ∧ m.no.size ≤ 9223372036854775807

set_option maxHeartbeats 16000000 in
set_option maxRecDepth 100000 in
theorem take_all {w : World} {p po b : Nat} {v : Value} {L M0 : List Spn} (now : Int) (h1 : 0 ≤ now) (h2 : now ≤ 4294967296) (hp : ModelAt w p po b M0) (hM0 : Held M0) (hv : ReadsS w v L) (hl : L.length ≤ 9223372036854775806) (hf : ∀ m ∈ L, Fits m) :
    Calls Tryz.prog 336 #[.pointer (some ⟨p, po, none⟩), v, .int .i64 now] w fun e w' => e = .returned (.int .i64 ((takeF now L M0 []).2 : Nat)) ∧ Kept (fun k => k = b) w w' ∧ ModelAt w' p po b (takeF now L M0 []).1 := by
  obtain ⟨ao, cap, rfl, hv⟩ := hv
  have N := Lib.hid (none_not p po b w hp.cell)
  have HP := Lib.hid hp
  have HV := Lib.hid hv
  have LL := Lib.hid hl
  have FF := Lib.hid hf
  have HM0 := Lib.hid hM0
  have MK : ∀ W : World, (makeMap 546 none).run Tryz.prog W = .ok (.map (some W.heap.size)) (W.alloc (.map #[] 0)) := fun W => run_makeMap 546 W
  have BL0 := Lib.hid hp.map.lt
  obtain ⟨TF, hTF⟩ : ∃ T, takeF now L M0 [] = T := ⟨_, rfl⟩
  have T0 := Lib.hid hTF
  rw [hTF]
  clear hv hp hl hf hM0 hTF
  go_enter Tryz.func336, Tryz.ntmps336
  go_wp2_with (go_at_call 337; refine N.out.mono ?_; rintro e w4 ⟨rfl, rfl⟩)
  obtain ⟨sb, hsb⟩ : ∃ s, w.heap.size = s := ⟨_, rfl⟩
  have SB := Lib.hid (Nat.le_of_eq hsb)
  have NBS := Lib.hid (show ¬ sb = b from fun e => by have := BL0.out; omega)
  have SBE := Lib.hid hsb
  rw [hsb]
  clear hsb
  go_loopg [7, 19] L.length (fun gh s t wr => ∃ (i n : Nat) (M : List Spn) (KK : List (Int × Int)), i + gh = L.length ∧ t = .int .i64 i ∧ s = .int .i64 n ∧ n ≤ i ∧ Held M ∧ Kept (fun k => k = b) w wr ∧ ModelAt wr p po b M ∧ MapIs wr sb (kvS KK) ∧ (takeF now (L.drop i) M KK).1 = TF.1 ∧ (n + (takeF now (L.drop i) M KK).2 = TF.2))
  case atStart =>
    have e0 : MapIs (w.alloc (.map #[] 0)) sb (kvS []) := by rw [← SBE.out]; exact heap_alloc_new w _
    exact ⟨0, 0, M0, [], by omega, rfl, rfl, Nat.le_refl _, HM0.out, (Kept.refl _ w).alloc _, HP.out.keptF ((Kept.refl _ w).alloc _), e0, by rw [List.drop_zero, T0.out], by rw [List.drop_zero, T0.out]; omega⟩
  case round =>
    obtain ⟨i, n, M, KK, ji, rfl, rfl, ni, hM, kf, hmod, hs, t1, t2⟩ := hrel
    have JI := Lib.hid ji; have NI := Lib.hid ni; have HM := Lib.hid hM; have KF := Lib.hid kf; have TI := Lib.hid (And.intro t1 t2)
    have p0 := hmod.cell
    have hb := hmod.map
    clear ji ni hM kf t1 t2 hmod
    by_cases hlt : i < L.length
    · obtain ⟨m, hm⟩ : ∃ m, L[i]? = some m := ⟨_, List.getElem?_eq_getElem hlt⟩
      have HMM := Lib.hid hm
      have fm := FF.out m (List.mem_of_getElem? hm)
      have C := Lib.hid (check_all m fm.1 fm.2.1 fm.2.2)
      obtain ⟨bc, hbc⟩ : ∃ c, chkB m = c := ⟨_, rfl⟩
      have BC := Lib.hid hbc
      rw [hbc] at C
      obtain ⟨g, og, rfl, hcs⟩ : ∃ g o, ao = some ⟨g, o, none⟩ ∧ ∀ j u, (cellsS L)[j]? = some u → w.cell? ⟨g, o + j, none⟩ = some u := by
        rcases HV.out with h0 | ⟨g, o, h, hc⟩
        · rw [h0] at hlt; simp at hlt
        · exact ⟨g, o, h, hc⟩
      have ngb : ¬ g = b := fun e => by
        have h := HP.out.map.not_cell (j := og + i * 8)
        rw [← e, (ReadsS.at hcs hm).1] at h; cases h
      obtain ⟨q0, q1, q2, q3, q4, q5, q6, q7⟩ := ReadsS.at hcs hm
      replace q0 := KF.out.cell q0 ngb
      replace q1 := KF.out.cell q1 ngb
      replace q2 := KF.out.cell q2 ngb
      replace q3 := KF.out.cell q3 ngb
      replace q4 := KF.out.cell q4 ngb
      replace q5 := KF.out.cell q5 ngb
      replace q6 := KF.out.cell q6 ngb
      replace q7 := KF.out.cell q7 ngb
      have i1 : (0 : Int) ≤ (i : Int) := by omega
      have i2 : (i : Int) < (L.length : Int) := by omega
      have i5 : (i : Int) ≤ 9223372036854775805 := by have := LL.out; omega
      obtain ⟨o, ho⟩ : ∃ o, (lookM (m.tr, m.id) M).getD zeroS = o := ⟨_, rfl⟩
      obtain ⟨f, hof⟩ : ∃ f, (lookM (m.tr, m.id) M).isSome = f := ⟨_, rfl⟩
      have LO := Lib.hid ho
      have LF := Lib.hid hof
      clear hcs ngb hbc ho hof hm fm
      go_wp2
      obtain ⟨W, hW⟩ : ∃ W, (wr.alloc (.cells #[.int .i64 m.tr, .int .i64 m.id, .int .i64 m.pa, .string m.se, .string m.ho, .int .i64 m.st, .int .i64 m.du, .string m.no] 35)).alloc (.cells #[.int .i64 m.tr, .int .i64 m.id] 440) = W := ⟨_, rfl⟩
      obtain ⟨ns, hns⟩ : ∃ ns, wr.heap.size = ns := ⟨_, rfl⟩
      obtain ⟨nk, hnk⟩ : ∃ nk, ns + 1 = nk := ⟨_, rfl⟩
      have kA : Kept (fun _ => False) wr (wr.alloc (.cells #[.int .i64 m.tr, .int .i64 m.id, .int .i64 m.pa, .string m.se, .string m.ho, .int .i64 m.st, .int .i64 m.du, .string m.no] 35)) := (Kept.refl _ wr).alloc _
      have kB : Kept (fun _ => False) (wr.alloc (.cells #[.int .i64 m.tr, .int .i64 m.id, .int .i64 m.pa, .string m.se, .string m.ho, .int .i64 m.st, .int .i64 m.du, .string m.no] 35)) W := by rw [← hW]; exact (Kept.refl _ _).alloc _
      have k0 : W.cell? ⟨nk, 0, none⟩ = some (.int .i64 m.tr) := by rw [← hW, ← hnk, ← hns]; simp
      have k1 : W.cell? ⟨nk, 1, none⟩ = some (.int .i64 m.id) := by rw [← hW, ← hnk, ← hns]; simp
      have sm : SpanAt W ns m := by rw [← hns]; exact SpanAt.new.keptF kB
      have kC := keptFF kA kB
      replace p0 := kC.cell p0 (fun f => f)
      replace hb := hb.kept kC (fun f => f)
      replace hs := hs.kept kC (fun f => f)
      have KC := Lib.hid kC
      rw [hW, hns, hnk]
      clear hW kA kB kC q0 q1 q2 q3 q4 q5 q6 q7 hns hnk
      refine wp_region_held_drew (S := (fun w' => w'.cell? ⟨p, po, none⟩ = some (.map (some b)) ∧ w'.cell? ⟨nk, 0, none⟩ = some (.int .i64 m.tr) ∧ w'.cell? ⟨nk, 1, none⟩ = some (.int .i64 m.id) ∧ MapIs w' b (kvM M))) (by kernel_rfl) ?_ (fun hHeld => ?_)
      · exact ⟨p0, k0, k1, hb⟩
      refine wpAnyH_take (i := 0) (v := ?_) opAt0 (by kernel_rfl) (by kernel_rfl) (by kernel_rfl) (fun _ _ _ h => h) (Or.inl ⟨by rfl, ?_⟩) hHeld ?_
      case refine_2 => (intro w hSw; (try dsimp only at hSw); go_simp; all_goals (with_reducible rfl))
      (try simp only [Act.put]); (try simp only [List.setIfInBounds_toArray]); (try simp only [List.set_cons_succ]); (try simp only [List.set_cons_zero])
      refine wpAnyH_take (i := 1) (v := ?_) opAt1 (by kernel_rfl) (by kernel_rfl) (by kernel_rfl) (fun _ _ _ h => h) (Or.inl ⟨by rfl, ?_⟩) hHeld ?_
      case refine_2 => (intro w hSw; (try dsimp only at hSw); go_simp; all_goals (with_reducible rfl))
      (try simp only [Act.put]); (try simp only [List.setIfInBounds_toArray]); (try simp only [List.set_cons_succ]); (try simp only [List.set_cons_zero])
      refine wpAnyH_take (i := 2) (v := ?_) opAt2 (by kernel_rfl) (by kernel_rfl) (by kernel_rfl) (fun _ _ _ h => h) (Or.inl ⟨by rfl, ?_⟩) hHeld ?_
      case refine_2 => (intro w hSw; (try dsimp only at hSw); go_simp; all_goals (with_reducible rfl))
      (try simp only [Act.put]); (try simp only [List.setIfInBounds_toArray]); (try simp only [List.set_cons_succ]); (try simp only [List.set_cons_zero])
      refine wpAnyH_take (i := 3) (v := ?_) opAt3 (by kernel_rfl) (by kernel_rfl) (by kernel_rfl) (fun _ _ _ h => h) (Or.inl ⟨by rfl, ?_⟩) hHeld ?_
      case refine_2 => (intro w hSw; (try dsimp only at hSw); go_simp; all_goals (with_reducible rfl))
      (try simp only [Act.put]); (try simp only [List.setIfInBounds_toArray]); (try simp only [List.set_cons_succ]); (try simp only [List.set_cons_zero])
      refine wpAnyH_take (i := 4) (v := ?_) opAt4 (by kernel_rfl) (by kernel_rfl) (by kernel_rfl) (fun _ _ _ h => h) (Or.inl ⟨by rfl, ?_⟩) hHeld ?_
      case refine_2 => (intro w hSw; (try dsimp only at hSw); go_simp; all_goals (with_reducible rfl))
      (try simp only [Act.put]); (try simp only [List.setIfInBounds_toArray]); (try simp only [List.set_cons_succ]); (try simp only [List.set_cons_zero])
      refine wpAnyH_take (i := 5) (v := ?_) opAt5 (by kernel_rfl) (by kernel_rfl) (by kernel_rfl) (fun _ _ _ h => h) (Or.inl ⟨by rfl, ?_⟩) hHeld ?_
      case refine_2 => (intro w hSw; (try dsimp only at hSw); have LK := look_at hSw.2.2.2 m.tr m.id; rw [LO.out, LF.out] at LK; unfold aggS at LK; have q0 := hSw.1; have q1 := hSw.2.1; have q2 := hSw.2.2.1; clear hSw; go_simp; all_goals (with_reducible rfl))
      (try simp only [Act.put]); (try simp only [List.setIfInBounds_toArray]); (try simp only [List.set_cons_succ]); (try simp only [List.set_cons_zero])
      refine wpAnyH_take (i := 6) (v := ?_) opAt6 (by kernel_rfl) (by kernel_rfl) (by kernel_rfl) (fun _ _ _ h => h) (Or.inl ⟨by rfl, ?_⟩) hHeld ?_
      case refine_2 => (intro w hSw; (try dsimp only at hSw); go_simp; all_goals (with_reducible rfl))
      (try simp only [Act.put]); (try simp only [List.setIfInBounds_toArray]); (try simp only [List.set_cons_succ]); (try simp only [List.set_cons_zero])
      refine wpAnyH_take (i := 7) (v := ?_) opAt7 (by kernel_rfl) (by kernel_rfl) (by kernel_rfl) (fun _ _ _ h => h) (Or.inl ⟨by rfl, ?_⟩) hHeld ?_
      case refine_2 => (intro w hSw; (try dsimp only at hSw); go_simp; all_goals (with_reducible rfl))
      (try simp only [Act.put]); (try simp only [List.setIfInBounds_toArray]); (try simp only [List.set_cons_succ]); (try simp only [List.set_cons_zero])
      refine wpAnyH_take (i := 8) (v := ?_) opAt8 (by kernel_rfl) (by kernel_rfl) (by kernel_rfl) (fun _ _ _ h => h) (Or.inl ⟨by rfl, ?_⟩) hHeld ?_
      case refine_2 => (intro w hSw; (try dsimp only at hSw); go_simp; all_goals (with_reducible rfl))
      (try simp only [Act.put]); (try simp only [List.setIfInBounds_toArray]); (try simp only [List.set_cons_succ]); (try simp only [List.set_cons_zero])
      refine wpAnyH_ready (rs := [9]) (by kernel_rfl) (by simp) ?_
      refine AllReadyH.cons opAt9 (fun K hK => ?_) AllReadyH.nil
      go_simp
      skip
      refine hK.out _ _ ?_ (fun hHeld => ?_)
      · exact ⟨(((Kept.refl (fun _ => False) W).alloc _).drew).cell p0 (fun f => f), (((Kept.refl (fun _ => False) W).alloc _).drew).cell k0 (fun f => f), (((Kept.refl (fun _ => False) W).alloc _).drew).cell k1 (fun f => f), hb.kept (((Kept.refl (fun _ => False) W).alloc _).drew) (fun f => f)⟩
      clear hK K
      (try simp only [Act.put]); (try simp only [List.setIfInBounds_toArray]); (try simp only [List.set_cons_succ]); (try simp only [List.set_cons_zero])
      refine wpAnyH_ready (rs := [10]) (by kernel_rfl) (by simp) ?_
      refine AllReadyH.cons opAt10 (fun K hK => ?_) AllReadyH.nil
      go_simp
      skip
      refine hK.out _ _ ?_ (fun hHeld => ?_)
      · exact ⟨(((Kept.refl (fun _ => False) W).alloc _).drew).cell p0 (fun f => f), (((Kept.refl (fun _ => False) W).alloc _).drew).cell k0 (fun f => f), (((Kept.refl (fun _ => False) W).alloc _).drew).cell k1 (fun f => f), hb.kept (((Kept.refl (fun _ => False) W).alloc _).drew) (fun f => f)⟩
      clear hK K
      (try simp only [Act.put]); (try simp only [List.setIfInBounds_toArray]); (try simp only [List.set_cons_succ]); (try simp only [List.set_cons_zero])
      refine wpAnyH_take (i := 11) (v := ?_) opAt11 (by kernel_rfl) (by kernel_rfl) (by kernel_rfl) (fun _ _ _ h => h) (Or.inl ⟨by rfl, ?_⟩) hHeld ?_
      case refine_2 => (intro w hSw; (try dsimp only at hSw); go_simp; all_goals (with_reducible rfl))
      (try simp only [Act.put]); (try simp only [List.setIfInBounds_toArray]); (try simp only [List.set_cons_succ]); (try simp only [List.set_cons_zero])
      refine wpAnyH_done (by kernel_rfl) ?_ _
      obtain ⟨W5, hW5⟩ : ∃ W5, (W.alloc (.cells #[.int .i64 o.tr, .int .i64 o.id, .int .i64 o.pa, .string o.se, .string o.ho, .int .i64 o.st, .int .i64 o.du, .string o.no] 35)).drew = W5 := ⟨_, rfl⟩
      have k5 : Kept (fun _ => False) W W5 := by rw [← hW5]; exact ((Kept.refl _ W).alloc _).drew
      obtain ⟨no, hno⟩ : ∃ no, W.heap.size = no := ⟨_, rfl⟩
      have so : SpanAt W5 no o := by rw [← hW5, ← hno]; exact (SpanAt.new (w := W) (m := o)).keptF ((Kept.refl _ _).drew)
      rw [hW5, hno]
      replace p0 := k5.cell p0 (fun f => f)
      replace k0 := k5.cell k0 (fun f => f)
      replace k1 := k5.cell k1 (fun f => f)
      replace sm := sm.keptF k5
      replace hb := hb.kept k5 (fun f => f)
      replace hs := hs.kept k5 (fun f => f)
      have K5 := Lib.hid (keptFF KC.out k5)
      clear hW5 k5 hno
      have s0 := sm 0 _ rfl; have s1 := sm 1 _ rfl; have s2 := sm 2 _ rfl; have s3 := sm 3 _ rfl; have s4 := sm 4 _ rfl; have s5 := sm 5 _ rfl; have s6 := sm 6 _ rfl; have s7 := sm 7 _ rfl
      go_wp2_with fail
      refine (C.out _).mono ?_
      rintro e w6 ⟨rfl, k6⟩
      replace p0 := k6.cell p0 (fun f => f)
      replace k0 := k6.cell k0 (fun f => f)
      replace k1 := k6.cell k1 (fun f => f)
      replace sm := sm.keptF k6
      replace so := so.keptF k6
      replace hb := hb.kept k6 (fun f => f)
      replace hs := hs.kept k6 (fun f => f)
      have K6 := Lib.hid (keptFF K5.out k6)
      clear k6
      clear s0 s1 s2 s3 s4 s5 s6 s7
      cases bc with
      | false =>
        go_wp2
        go_roundg (L.length - i - 1)
        case measure => have := JI.out; omega
        case rel =>
          have hsk : skipB now M KK m = true := by unfold skipB; rw [BC.out]; rfl
          have x1 := LL.out; have x2 := JI.out; have x3 := NI.out; have TJ := TI.out
          rw [← drop_step HMM.out, take_skip hsk] at TJ
          exact ⟨i + 1, n, M, KK, by have := JI.out; omega, by go_num, rfl, Nat.le_succ_of_le NI.out, HM.out, (KF.out.trans K6.out (fun _ _ h => h) (fun _ _ f => f.elim) : Kept (fun k => k = b) w w6), ⟨p0, hb, HM.out.may⟩, hs, TJ.1, TJ.2⟩
      | true =>
        have hnum := (chk_num BC.out).2.2.2.1
        have E := Lib.hid (expired_all m now hnum.1 hnum.2 h1 h2)
        obtain ⟨be, hbe⟩ : ∃ c, lateB m.st now = c := ⟨_, rfl⟩
        have BE := Lib.hid hbe
        rw [hbe] at E
        clear hbe hnum
        have s0 := sm 0 _ rfl; have s1 := sm 1 _ rfl; have s2 := sm 2 _ rfl; have s3 := sm 3 _ rfl; have s4 := sm 4 _ rfl; have s5 := sm 5 _ rfl; have s6 := sm 6 _ rfl; have s7 := sm 7 _ rfl
        go_wp2_with fail
        refine (E.out _).mono ?_
        rintro e w7 ⟨rfl, k7⟩
        replace p0 := k7.cell p0 (fun f => f)
        replace k0 := k7.cell k0 (fun f => f)
        replace k1 := k7.cell k1 (fun f => f)
        replace sm := sm.keptF k7
        replace so := so.keptF k7
        replace hb := hb.kept k7 (fun f => f)
        replace hs := hs.kept k7 (fun f => f)
        have K7 := Lib.hid (keptFF K6.out k7)
        clear k7
        clear s0 s1 s2 s3 s4 s5 s6 s7
        cases be with
        | true =>
          go_wp2
          go_roundg (L.length - i - 1)
          case measure => have := JI.out; omega
          case rel =>
            have hsk : skipB now M KK m = true := by unfold skipB; rw [BE.out]; simp
            have x1 := LL.out; have x2 := JI.out; have x3 := NI.out; have TJ := TI.out
            rw [← drop_step HMM.out, take_skip hsk] at TJ
            exact ⟨i + 1, n, M, KK, by have := JI.out; omega, by go_num, rfl, Nat.le_succ_of_le NI.out, HM.out, (KF.out.trans K7.out (fun _ _ h => h) (fun _ _ f => f.elim) : Kept (fun k => k = b) w w7), ⟨p0, hb, HM.out.may⟩, hs, TJ.1, TJ.2⟩
        | false =>
          obtain ⟨bk, hbk⟩ : ∃ c, decide (keyOf m ∈ KK) = c := ⟨_, rfl⟩
          have SE := seen_at hs m.tr m.id
          have BK := Lib.hid hbk
          unfold keyOf at hbk
          rw [hbk] at SE
          clear hbk
          cases bk with
          | true =>
            have SE2 : (Instr.lookup 546 (.map (some sb)) (.agg #[.int .i64 m.tr, .int .i64 m.id]) false).run Tryz.prog w7 = .ok (.int .i64 1) w7 := SE
            clear SE
            go_wp2
            clear SE2
            go_roundg (L.length - i - 1)
            case measure => have := JI.out; omega
            case rel =>
              have hsk : skipB now M KK m = true := by unfold skipB; rw [BK.out]; simp
              have x1 := LL.out; have x2 := JI.out; have x3 := NI.out; have TJ := TI.out
              rw [← drop_step HMM.out, take_skip hsk] at TJ
              exact ⟨i + 1, n, M, KK, by have := JI.out; omega, by go_num, rfl, Nat.le_succ_of_le NI.out, HM.out, (KF.out.trans K7.out (fun _ _ h => h) (fun _ _ f => f.elim) : Kept (fun k => k = b) w w7), ⟨p0, hb, HM.out.may⟩, hs, TJ.1, TJ.2⟩
          | false =>
            have SE2 : (Instr.lookup 546 (.map (some sb)) (.agg #[.int .i64 m.tr, .int .i64 m.id]) false).run Tryz.prog w7 = .ok (.int .i64 0) w7 := SE
            clear SE
            cases f with
            | false =>
              go_wp2
              clear SE2
              have hno : lookM (keyOf m) M = none := by cases hq : lookM (keyOf m) M with | none => rfl | some z => (have := LF.out; unfold keyOf at hq; rw [hq] at this; cases this)
              have HNO := Lib.hid hno
              clear hno
              have np : ¬ p = b := fun e => by have h := hb.not_cell (j := po); rw [← e, p0] at h; cases h
              have nnk : ¬ nk = b := fun e => by have h := hb.not_cell (j := 0); rw [← e, k0] at h; cases h
              have nns : ¬ ns = b := fun e => by have h := hb.not_cell (j := 0); rw [← e, sm 0 _ rfl] at h; cases h
              have np2 : ¬ p = sb := fun e => by have h := hs.not_cell (j := po); rw [← e, p0] at h; cases h
              have nnk2 : ¬ nk = sb := fun e => by have h := hs.not_cell (j := 0); rw [← e, k0] at h; cases h
              have nns2 : ¬ ns = sb := fun e => by have h := hs.not_cell (j := 0); rw [← e, sm 0 _ rfl] at h; cases h
              obtain ⟨A1, hA1⟩ : ∃ A, setBlock w7.drew b (.map (entsL 0 (entL (keyOf m) spanZ (kvM M))).toArray (entL (keyOf m) spanZ (kvM M)).length) = A := ⟨_, rfl⟩
              obtain ⟨A2, hA2⟩ : ∃ A, setBlock A1 b (.map (entsL 0 (putL (keyOf m) (aggS m) (kvM M))).toArray (putL (keyOf m) (aggS m) (kvM M)).length) = A := ⟨_, rfl⟩
              obtain ⟨A3, hA3⟩ : ∃ A, setBlock A2 sb (.map (entsL 0 (putL (keyOf m) (.int .i64 1) (kvS KK))).toArray (putL (keyOf m) (.int .i64 1) (kvS KK)).length) = A := ⟨_, rfl⟩
              have BL := hb.lt
              have hb' : MapIs w7.drew b (kvM M) := hb
              have b1 : MapIs A1 b (entL (keyOf m) spanZ (kvM M)) := by rw [← hA1]; exact MapIs.set BL
              have b2 : MapIs A2 b (putL (keyOf m) (aggS m) (kvM M)) := by rw [← hA2]; exact MapIs.set b1.lt
              have KE1 : Kept (fun k => k = b) w7.drew A1 := by rw [← hA1]; exact kept_setBlock (S := fun k => k = _) (Kept.refl _ _) (fun _ => rfl) _
              have KE2 : Kept (fun k => k = b) A1 A2 := by rw [← hA2]; exact kept_setBlock (S := fun k => k = _) (Kept.refl _ _) (fun _ => rfl) _
              have KE3 : Kept (fun k => k = sb) A2 A3 := by rw [← hA3]; exact kept_setBlock (S := fun k => k = _) (Kept.refl _ _) (fun _ => rfl) _
              have c0 : MapIs w7.drew sb (kvS KK) := hs
              have c2 : MapIs A2 sb (kvS KK) := (c0.kept KE1 NBS.out).kept KE2 NBS.out
              have c3 : MapIs A3 sb (putL (keyOf m) (.int .i64 1) (kvS KK)) := by rw [← hA3]; exact MapIs.set c2.lt
              have b3 : MapIs A3 b (putL (keyOf m) (aggS m) (kvM M)) := b2.kept KE3 (fun e => NBS.out e.symm)
              have EQ1 := entry68 hb' (keyOf m)
              have EQ2 := store68 b1 (aggS m)
              have EQ3 := put72 c2 (keyOf m) (.int .i64 1)
              rw [hA1] at EQ1; rw [hA2] at EQ2; rw [hA3] at EQ3
              obtain ⟨ov, hov⟩ : ∃ ov, oldL (keyOf m) spanZ (kvM M) = ov := ⟨_, rfl⟩
              obtain ⟨st, hst⟩ : ∃ st, stampL (keyOf m) (kvM M) = st := ⟨_, rfl⟩
              rw [hov, hst] at EQ1; rw [hst] at EQ2
              unfold keyV keyOf at EQ1 EQ3; unfold aggS at EQ2
              rw [put_kvM] at b3
              have B3 := Lib.hid b3; have C3 := Lib.hid c3
              clear hA1 hA2 hA3 b1 b2 b3 c0 c2 c3 hb hb' hs hov hst BL
              refine wp_region_held_drew (S := (fun w' => w'.cell? ⟨p, po, none⟩ = some (.map (some b)) ∧ w'.cell? ⟨nk, 0, none⟩ = some (.int .i64 m.tr) ∧ w'.cell? ⟨nk, 1, none⟩ = some (.int .i64 m.id) ∧ SpanAt w' ns m)) (by kernel_rfl) ?_ (fun hHeld => ?_)
              · exact ⟨p0, k0, k1, sm⟩
              refine wpAnyH_take (i := 0) (v := ?_) opAt0 (by kernel_rfl) (by kernel_rfl) (by kernel_rfl) (fun _ _ _ h => h) (Or.inl ⟨by rfl, ?_⟩) hHeld ?_
              case refine_2 => (intro w hSw; (try dsimp only at hSw); go_simp; all_goals (with_reducible rfl))
              (try simp only [Act.put]); (try simp only [List.setIfInBounds_toArray]); (try simp only [List.set_cons_succ]); (try simp only [List.set_cons_zero])
              refine wpAnyH_take (i := 1) (v := ?_) opAt1 (by kernel_rfl) (by kernel_rfl) (by kernel_rfl) (fun _ _ _ h => h) (Or.inl ⟨by rfl, ?_⟩) hHeld ?_
              case refine_2 => (intro w hSw; (try dsimp only at hSw); go_simp; all_goals (with_reducible rfl))
              (try simp only [Act.put]); (try simp only [List.setIfInBounds_toArray]); (try simp only [List.set_cons_succ]); (try simp only [List.set_cons_zero])
              refine wpAnyH_take (i := 2) (v := ?_) opAt2 (by kernel_rfl) (by kernel_rfl) (by kernel_rfl) (fun _ _ _ h => h) (Or.inl ⟨by rfl, ?_⟩) hHeld ?_
              case refine_2 => (intro w hSw; (try dsimp only at hSw); go_simp; all_goals (with_reducible rfl))
              (try simp only [Act.put]); (try simp only [List.setIfInBounds_toArray]); (try simp only [List.set_cons_succ]); (try simp only [List.set_cons_zero])
              refine wpAnyH_take (i := 3) (v := ?_) opAt3 (by kernel_rfl) (by kernel_rfl) (by kernel_rfl) (fun _ _ _ h => h) (Or.inl ⟨by rfl, ?_⟩) hHeld ?_
              case refine_2 => (intro w hSw; (try dsimp only at hSw); go_simp; all_goals (with_reducible rfl))
              (try simp only [Act.put]); (try simp only [List.setIfInBounds_toArray]); (try simp only [List.set_cons_succ]); (try simp only [List.set_cons_zero])
              refine wpAnyH_take (i := 4) (v := ?_) opAt4 (by kernel_rfl) (by kernel_rfl) (by kernel_rfl) (fun _ _ _ h => h) (Or.inl ⟨by rfl, ?_⟩) hHeld ?_
              case refine_2 => (intro w hSw; (try dsimp only at hSw); go_simp; all_goals (with_reducible rfl))
              (try simp only [Act.put]); (try simp only [List.setIfInBounds_toArray]); (try simp only [List.set_cons_succ]); (try simp only [List.set_cons_zero])
              refine wpAnyH_take (i := 5) (v := ?_) opAt5 (by kernel_rfl) (by kernel_rfl) (by kernel_rfl) (fun _ _ _ h => h) (Or.inl ⟨by rfl, ?_⟩) hHeld ?_
              case refine_2 => (intro w hSw; (try dsimp only at hSw); go_simp; all_goals (with_reducible rfl))
              (try simp only [Act.put]); (try simp only [List.setIfInBounds_toArray]); (try simp only [List.set_cons_succ]); (try simp only [List.set_cons_zero])
              refine wpAnyH_take (i := 6) (v := ?_) opAt6 (by kernel_rfl) (by kernel_rfl) (by kernel_rfl) (fun _ _ _ h => h) (Or.inl ⟨by rfl, ?_⟩) hHeld ?_
              case refine_2 => (intro w hSw; (try dsimp only at hSw); go_simp; all_goals (with_reducible rfl))
              (try simp only [Act.put]); (try simp only [List.setIfInBounds_toArray]); (try simp only [List.set_cons_succ]); (try simp only [List.set_cons_zero])
              refine wpAnyH_take (i := 7) (v := ?_) opAt7 (by kernel_rfl) (by kernel_rfl) (by kernel_rfl) (fun _ _ _ h => h) (Or.inl ⟨by rfl, ?_⟩) hHeld ?_
              case refine_2 => (intro w hSw; (try dsimp only at hSw); have s0 := hSw.2.2.2 0 _ rfl; have s1 := hSw.2.2.2 1 _ rfl; have s2 := hSw.2.2.2 2 _ rfl; have s3 := hSw.2.2.2 3 _ rfl; have s4 := hSw.2.2.2 4 _ rfl; have s5 := hSw.2.2.2 5 _ rfl; have s6 := hSw.2.2.2 6 _ rfl; have s7 := hSw.2.2.2 7 _ rfl; clear hSw; go_simp; all_goals (with_reducible rfl))
              (try simp only [Act.put]); (try simp only [List.setIfInBounds_toArray]); (try simp only [List.set_cons_succ]); (try simp only [List.set_cons_zero])
              refine wpAnyH_ready (rs := [8]) (by kernel_rfl) (by simp) ?_
              refine AllReadyH.cons opAt8 (fun K hK => ?_) AllReadyH.nil
              go_simp
              skip
              refine hK.out _ _ ?_ (fun hHeld => ?_)
              · exact ⟨KE1.cell hHeld.1 np, KE1.cell hHeld.2.1 nnk, KE1.cell hHeld.2.2.1 nnk, hHeld.2.2.2.kept KE1 nns⟩
              clear hK K
              (try simp only [Act.put]); (try simp only [List.setIfInBounds_toArray]); (try simp only [List.set_cons_succ]); (try simp only [List.set_cons_zero])
              refine wpAnyH_take (i := 9) (v := ?_) opAt9 (by kernel_rfl) (by kernel_rfl) (by kernel_rfl) (fun _ _ _ h => h) (Or.inl ⟨by rfl, ?_⟩) hHeld ?_
              case refine_2 => (intro w hSw; (try dsimp only at hSw); go_simp; all_goals (with_reducible rfl))
              (try simp only [Act.put]); (try simp only [List.setIfInBounds_toArray]); (try simp only [List.set_cons_succ]); (try simp only [List.set_cons_zero])
              refine wpAnyH_ready (rs := [10]) (by kernel_rfl) (by simp) ?_
              refine AllReadyH.cons opAt10 (fun K hK => ?_) AllReadyH.nil
              go_simp
              skip
              refine hK.out _ _ ?_ (fun hHeld => ?_)
              · exact ⟨KE2.cell hHeld.1 np, KE2.cell hHeld.2.1 nnk, KE2.cell hHeld.2.2.1 nnk, hHeld.2.2.2.kept KE2 nns⟩
              clear hK K
              (try simp only [Act.put]); (try simp only [List.setIfInBounds_toArray]); (try simp only [List.set_cons_succ]); (try simp only [List.set_cons_zero])
              refine wpAnyH_ready (rs := [11]) (by kernel_rfl) (by simp) ?_
              refine AllReadyH.cons opAt11 (fun K hK => ?_) AllReadyH.nil
              go_simp
              skip
              refine hK.out _ _ ?_ (fun hHeld => ?_)
              · exact ⟨KE3.cell hHeld.1 np2, KE3.cell hHeld.2.1 nnk2, KE3.cell hHeld.2.2.1 nnk2, hHeld.2.2.2.kept KE3 nns2⟩
              clear hK K
              (try simp only [Act.put]); (try simp only [List.setIfInBounds_toArray]); (try simp only [List.set_cons_succ]); (try simp only [List.set_cons_zero])
              refine wpAnyH_done (by kernel_rfl) ?_ _
              have kf : Kept (fun k => k = b) w A3 := (KF.out.trans (((K7.out.drew).mono (fun _ _ f => f.elim) : Kept (fun k => k = b) wr _).trans (KE1.trans KE2 (fun _ _ h => h) (fun _ _ h => h)) (fun _ _ h => h) (fun _ _ h => h)) (fun _ _ h => h) (fun _ _ h => h)).trans KE3 (fun _ _ h => h) (fun i hi h => absurd hi (by rw [h]; exact Nat.not_lt.2 SB.out))
              have pf : A3.cell? ⟨p, po, none⟩ = some (.map (some b)) := KE3.cell (KE2.cell (KE1.cell p0 np) np) np2
              have KG := Lib.hid kf
              have PF := Lib.hid pf
              clear kf pf EQ1 EQ2 EQ3
              have i3 : (0 : Int) ≤ (n : Int) := by omega
              have i4 : (n : Int) ≤ 9223372036854775806 := by have := NI.out; have := JI.out; have := LL.out; omega
              go_wp2
              go_roundg (L.length - i - 1)
              case measure => have := JI.out; omega
              case rel =>
                have hsk : skipB now M KK m = false := by unfold skipB; rw [BC.out, BE.out, BK.out]; unfold hasB; rw [HNO.out]; rfl
                have x1 := LL.out; have x2 := JI.out; have x3 := NI.out; have TJ := TI.out
                rw [← drop_step HMM.out, take_put hsk] at TJ
                have hk : keyOf m ∉ KK := fun e => by rw [decide_eq_true e] at BK; cases BK.out
                have C4 := C3.out
                rw [put_kvS _ _ hk] at C4
                exact ⟨i + 1, n + 1, putM m M, KK ++ [keyOf m], by have := JI.out; omega, by go_num, by go_num, Nat.succ_le_succ NI.out, HM.out.put (skip_chk hsk), KG.out, ⟨PF.out, B3.out, (HM.out.put (skip_chk hsk)).may⟩, C4, TJ.1, by have := TJ.2; dsimp only at this ⊢; omega⟩
            | true =>
              have hlo : lookM (keyOf m) M = some o := by cases hq : lookM (keyOf m) M with | none => (have := LF.out; unfold keyOf at hq; rw [hq] at this; cases this) | some z => (have := LO.out; unfold keyOf at hq; rw [hq] at this; rw [← this]; rfl)
              have onum := (chk_num (HM.out.may o (look_mem hlo).1)).2.2.2.1
              have E2 := Lib.hid (expired_all o now onum.1 onum.2 h1 h2)
              obtain ⟨bo, hbo⟩ : ∃ c, lateB o.st now = c := ⟨_, rfl⟩
              have BO := Lib.hid hbo; have HLO := Lib.hid hlo
              rw [hbo] at E2
              clear hbo onum hlo
              have o0 := so 0 _ rfl; have o1 := so 1 _ rfl; have o2 := so 2 _ rfl; have o3 := so 3 _ rfl; have o4 := so 4 _ rfl; have o5 := so 5 _ rfl; have o6 := so 6 _ rfl; have o7 := so 7 _ rfl
              go_wp2_with fail
              refine (E2.out _).mono ?_
              rintro e w8 ⟨rfl, k8⟩
              replace p0 := k8.cell p0 (fun f => f)
              replace k0 := k8.cell k0 (fun f => f)
              replace k1 := k8.cell k1 (fun f => f)
              replace sm := sm.keptF k8
              replace so := so.keptF k8
              replace hb := hb.kept k8 (fun f => f)
              replace hs := hs.kept k8 (fun f => f)
              have K8 := Lib.hid (keptFF K7.out k8)
              clear k8
              clear SE2
              clear o0 o1 o2 o3 o4 o5 o6 o7
              cases bo with
              | false =>
                go_wp2
                go_roundg (L.length - i - 1)
                case measure => have := JI.out; omega
                case rel =>
                  have hsk : skipB now M KK m = true := by unfold skipB hasB; rw [HLO.out]; simp [BO.out]
                  have x1 := LL.out; have x2 := JI.out; have x3 := NI.out; have TJ := TI.out
                  rw [← drop_step HMM.out, take_skip hsk] at TJ
                  exact ⟨i + 1, n, M, KK, by have := JI.out; omega, by go_num, rfl, Nat.le_succ_of_le NI.out, HM.out, (KF.out.trans K8.out (fun _ _ h => h) (fun _ _ f => f.elim) : Kept (fun k => k = b) w w8), ⟨p0, hb, HM.out.may⟩, hs, TJ.1, TJ.2⟩
              | true =>
                go_wp2
                have np : ¬ p = b := fun e => by have h := hb.not_cell (j := po); rw [← e, p0] at h; cases h
                have nnk : ¬ nk = b := fun e => by have h := hb.not_cell (j := 0); rw [← e, k0] at h; cases h
                have nns : ¬ ns = b := fun e => by have h := hb.not_cell (j := 0); rw [← e, sm 0 _ rfl] at h; cases h
                have np2 : ¬ p = sb := fun e => by have h := hs.not_cell (j := po); rw [← e, p0] at h; cases h
                have nnk2 : ¬ nk = sb := fun e => by have h := hs.not_cell (j := 0); rw [← e, k0] at h; cases h
                have nns2 : ¬ ns = sb := fun e => by have h := hs.not_cell (j := 0); rw [← e, sm 0 _ rfl] at h; cases h
                obtain ⟨A1, hA1⟩ : ∃ A, setBlock w8.drew b (.map (entsL 0 (entL (keyOf m) spanZ (kvM M))).toArray (entL (keyOf m) spanZ (kvM M)).length) = A := ⟨_, rfl⟩
                obtain ⟨A2, hA2⟩ : ∃ A, setBlock A1 b (.map (entsL 0 (putL (keyOf m) (aggS m) (kvM M))).toArray (putL (keyOf m) (aggS m) (kvM M)).length) = A := ⟨_, rfl⟩
                obtain ⟨A3, hA3⟩ : ∃ A, setBlock A2 sb (.map (entsL 0 (putL (keyOf m) (.int .i64 1) (kvS KK))).toArray (putL (keyOf m) (.int .i64 1) (kvS KK)).length) = A := ⟨_, rfl⟩
                have BL := hb.lt
                have hb' : MapIs w8.drew b (kvM M) := hb
                have b1 : MapIs A1 b (entL (keyOf m) spanZ (kvM M)) := by rw [← hA1]; exact MapIs.set BL
                have b2 : MapIs A2 b (putL (keyOf m) (aggS m) (kvM M)) := by rw [← hA2]; exact MapIs.set b1.lt
                have KE1 : Kept (fun k => k = b) w8.drew A1 := by rw [← hA1]; exact kept_setBlock (S := fun k => k = _) (Kept.refl _ _) (fun _ => rfl) _
                have KE2 : Kept (fun k => k = b) A1 A2 := by rw [← hA2]; exact kept_setBlock (S := fun k => k = _) (Kept.refl _ _) (fun _ => rfl) _
                have KE3 : Kept (fun k => k = sb) A2 A3 := by rw [← hA3]; exact kept_setBlock (S := fun k => k = _) (Kept.refl _ _) (fun _ => rfl) _
                have c0 : MapIs w8.drew sb (kvS KK) := hs
                have c2 : MapIs A2 sb (kvS KK) := (c0.kept KE1 NBS.out).kept KE2 NBS.out
                have c3 : MapIs A3 sb (putL (keyOf m) (.int .i64 1) (kvS KK)) := by rw [← hA3]; exact MapIs.set c2.lt
                have b3 : MapIs A3 b (putL (keyOf m) (aggS m) (kvM M)) := b2.kept KE3 (fun e => NBS.out e.symm)
                have EQ1 := entry68 hb' (keyOf m)
                have EQ2 := store68 b1 (aggS m)
                have EQ3 := put72 c2 (keyOf m) (.int .i64 1)
                rw [hA1] at EQ1; rw [hA2] at EQ2; rw [hA3] at EQ3
                obtain ⟨ov, hov⟩ : ∃ ov, oldL (keyOf m) spanZ (kvM M) = ov := ⟨_, rfl⟩
                obtain ⟨st, hst⟩ : ∃ st, stampL (keyOf m) (kvM M) = st := ⟨_, rfl⟩
                rw [hov, hst] at EQ1; rw [hst] at EQ2
                unfold keyV keyOf at EQ1 EQ3; unfold aggS at EQ2
                rw [put_kvM] at b3
                have B3 := Lib.hid b3; have C3 := Lib.hid c3
                clear hA1 hA2 hA3 b1 b2 b3 c0 c2 c3 hb hb' hs hov hst BL
                refine wp_region_held_drew (S := (fun w' => w'.cell? ⟨p, po, none⟩ = some (.map (some b)) ∧ w'.cell? ⟨nk, 0, none⟩ = some (.int .i64 m.tr) ∧ w'.cell? ⟨nk, 1, none⟩ = some (.int .i64 m.id) ∧ SpanAt w' ns m)) (by kernel_rfl) ?_ (fun hHeld => ?_)
                · exact ⟨p0, k0, k1, sm⟩
                refine wpAnyH_take (i := 0) (v := ?_) opAt0 (by kernel_rfl) (by kernel_rfl) (by kernel_rfl) (fun _ _ _ h => h) (Or.inl ⟨by rfl, ?_⟩) hHeld ?_
                case refine_2 => (intro w hSw; (try dsimp only at hSw); go_simp; all_goals (with_reducible rfl))
                (try simp only [Act.put]); (try simp only [List.setIfInBounds_toArray]); (try simp only [List.set_cons_succ]); (try simp only [List.set_cons_zero])
                refine wpAnyH_take (i := 1) (v := ?_) opAt1 (by kernel_rfl) (by kernel_rfl) (by kernel_rfl) (fun _ _ _ h => h) (Or.inl ⟨by rfl, ?_⟩) hHeld ?_
                case refine_2 => (intro w hSw; (try dsimp only at hSw); go_simp; all_goals (with_reducible rfl))
                (try simp only [Act.put]); (try simp only [List.setIfInBounds_toArray]); (try simp only [List.set_cons_succ]); (try simp only [List.set_cons_zero])
                refine wpAnyH_take (i := 2) (v := ?_) opAt2 (by kernel_rfl) (by kernel_rfl) (by kernel_rfl) (fun _ _ _ h => h) (Or.inl ⟨by rfl, ?_⟩) hHeld ?_
                case refine_2 => (intro w hSw; (try dsimp only at hSw); go_simp; all_goals (with_reducible rfl))
                (try simp only [Act.put]); (try simp only [List.setIfInBounds_toArray]); (try simp only [List.set_cons_succ]); (try simp only [List.set_cons_zero])
                refine wpAnyH_take (i := 3) (v := ?_) opAt3 (by kernel_rfl) (by kernel_rfl) (by kernel_rfl) (fun _ _ _ h => h) (Or.inl ⟨by rfl, ?_⟩) hHeld ?_
                case refine_2 => (intro w hSw; (try dsimp only at hSw); go_simp; all_goals (with_reducible rfl))
                (try simp only [Act.put]); (try simp only [List.setIfInBounds_toArray]); (try simp only [List.set_cons_succ]); (try simp only [List.set_cons_zero])
                refine wpAnyH_take (i := 4) (v := ?_) opAt4 (by kernel_rfl) (by kernel_rfl) (by kernel_rfl) (fun _ _ _ h => h) (Or.inl ⟨by rfl, ?_⟩) hHeld ?_
                case refine_2 => (intro w hSw; (try dsimp only at hSw); go_simp; all_goals (with_reducible rfl))
                (try simp only [Act.put]); (try simp only [List.setIfInBounds_toArray]); (try simp only [List.set_cons_succ]); (try simp only [List.set_cons_zero])
                refine wpAnyH_take (i := 5) (v := ?_) opAt5 (by kernel_rfl) (by kernel_rfl) (by kernel_rfl) (fun _ _ _ h => h) (Or.inl ⟨by rfl, ?_⟩) hHeld ?_
                case refine_2 => (intro w hSw; (try dsimp only at hSw); go_simp; all_goals (with_reducible rfl))
                (try simp only [Act.put]); (try simp only [List.setIfInBounds_toArray]); (try simp only [List.set_cons_succ]); (try simp only [List.set_cons_zero])
                refine wpAnyH_take (i := 6) (v := ?_) opAt6 (by kernel_rfl) (by kernel_rfl) (by kernel_rfl) (fun _ _ _ h => h) (Or.inl ⟨by rfl, ?_⟩) hHeld ?_
                case refine_2 => (intro w hSw; (try dsimp only at hSw); go_simp; all_goals (with_reducible rfl))
                (try simp only [Act.put]); (try simp only [List.setIfInBounds_toArray]); (try simp only [List.set_cons_succ]); (try simp only [List.set_cons_zero])
                refine wpAnyH_take (i := 7) (v := ?_) opAt7 (by kernel_rfl) (by kernel_rfl) (by kernel_rfl) (fun _ _ _ h => h) (Or.inl ⟨by rfl, ?_⟩) hHeld ?_
                case refine_2 => (intro w hSw; (try dsimp only at hSw); have s0 := hSw.2.2.2 0 _ rfl; have s1 := hSw.2.2.2 1 _ rfl; have s2 := hSw.2.2.2 2 _ rfl; have s3 := hSw.2.2.2 3 _ rfl; have s4 := hSw.2.2.2 4 _ rfl; have s5 := hSw.2.2.2 5 _ rfl; have s6 := hSw.2.2.2 6 _ rfl; have s7 := hSw.2.2.2 7 _ rfl; clear hSw; go_simp; all_goals (with_reducible rfl))
                (try simp only [Act.put]); (try simp only [List.setIfInBounds_toArray]); (try simp only [List.set_cons_succ]); (try simp only [List.set_cons_zero])
                refine wpAnyH_ready (rs := [8]) (by kernel_rfl) (by simp) ?_
                refine AllReadyH.cons opAt8 (fun K hK => ?_) AllReadyH.nil
                go_simp
                skip
                refine hK.out _ _ ?_ (fun hHeld => ?_)
                · exact ⟨KE1.cell hHeld.1 np, KE1.cell hHeld.2.1 nnk, KE1.cell hHeld.2.2.1 nnk, hHeld.2.2.2.kept KE1 nns⟩
                clear hK K
                (try simp only [Act.put]); (try simp only [List.setIfInBounds_toArray]); (try simp only [List.set_cons_succ]); (try simp only [List.set_cons_zero])
                refine wpAnyH_take (i := 9) (v := ?_) opAt9 (by kernel_rfl) (by kernel_rfl) (by kernel_rfl) (fun _ _ _ h => h) (Or.inl ⟨by rfl, ?_⟩) hHeld ?_
                case refine_2 => (intro w hSw; (try dsimp only at hSw); go_simp; all_goals (with_reducible rfl))
                (try simp only [Act.put]); (try simp only [List.setIfInBounds_toArray]); (try simp only [List.set_cons_succ]); (try simp only [List.set_cons_zero])
                refine wpAnyH_ready (rs := [10]) (by kernel_rfl) (by simp) ?_
                refine AllReadyH.cons opAt10 (fun K hK => ?_) AllReadyH.nil
                go_simp
                skip
                refine hK.out _ _ ?_ (fun hHeld => ?_)
                · exact ⟨KE2.cell hHeld.1 np, KE2.cell hHeld.2.1 nnk, KE2.cell hHeld.2.2.1 nnk, hHeld.2.2.2.kept KE2 nns⟩
                clear hK K
                (try simp only [Act.put]); (try simp only [List.setIfInBounds_toArray]); (try simp only [List.set_cons_succ]); (try simp only [List.set_cons_zero])
                refine wpAnyH_ready (rs := [11]) (by kernel_rfl) (by simp) ?_
                refine AllReadyH.cons opAt11 (fun K hK => ?_) AllReadyH.nil
                go_simp
                skip
                refine hK.out _ _ ?_ (fun hHeld => ?_)
                · exact ⟨KE3.cell hHeld.1 np2, KE3.cell hHeld.2.1 nnk2, KE3.cell hHeld.2.2.1 nnk2, hHeld.2.2.2.kept KE3 nns2⟩
                clear hK K
                (try simp only [Act.put]); (try simp only [List.setIfInBounds_toArray]); (try simp only [List.set_cons_succ]); (try simp only [List.set_cons_zero])
                refine wpAnyH_done (by kernel_rfl) ?_ _
                have kf : Kept (fun k => k = b) w A3 := (KF.out.trans (((K8.out.drew).mono (fun _ _ f => f.elim) : Kept (fun k => k = b) wr _).trans (KE1.trans KE2 (fun _ _ h => h) (fun _ _ h => h)) (fun _ _ h => h) (fun _ _ h => h)) (fun _ _ h => h) (fun _ _ h => h)).trans KE3 (fun _ _ h => h) (fun i hi h => absurd hi (by rw [h]; exact Nat.not_lt.2 SB.out))
                have pf : A3.cell? ⟨p, po, none⟩ = some (.map (some b)) := KE3.cell (KE2.cell (KE1.cell p0 np) np) np2
                have KG := Lib.hid kf
                have PF := Lib.hid pf
                clear kf pf EQ1 EQ2 EQ3
                have i3 : (0 : Int) ≤ (n : Int) := by omega
                have i4 : (n : Int) ≤ 9223372036854775806 := by have := NI.out; have := JI.out; have := LL.out; omega
                go_wp2
                go_roundg (L.length - i - 1)
                case measure => have := JI.out; omega
                case rel =>
                  have hsk : skipB now M KK m = false := by unfold skipB; rw [BC.out, BE.out, BK.out]; unfold hasB; rw [HLO.out]; simp [BO.out]
                  have x1 := LL.out; have x2 := JI.out; have x3 := NI.out; have TJ := TI.out
                  rw [← drop_step HMM.out, take_put hsk] at TJ
                  have hk : keyOf m ∉ KK := fun e => by rw [decide_eq_true e] at BK; cases BK.out
                  have C4 := C3.out
                  rw [put_kvS _ _ hk] at C4
                  exact ⟨i + 1, n + 1, putM m M, KK ++ [keyOf m], by have := JI.out; omega, by go_num, by go_num, Nat.succ_le_succ NI.out, HM.out.put (skip_chk hsk), KG.out, ⟨PF.out, B3.out, (HM.out.put (skip_chk hsk)).may⟩, C4, TJ.1, by have := TJ.2; dsimp only at this ⊢; omega⟩
    · have i1 : ¬ (i : Int) < (L.length : Int) := by omega
      have ei : L.drop i = [] := List.drop_eq_nil_of_le (by omega)
      have TJ := TI.out
      rw [ei] at TJ
      have e1 : M = TF.1 := TJ.1
      have e2 : n = TF.2 := TJ.2
      have HMM := Lib.hid (show ModelAt wr p po b M from ⟨p0, hb, HM.out.may⟩)
      clear p0 hb hs ei TJ
      go_wp2
      go_ret
      exact ⟨by rw [← e2]; rfl, KF.out, e1 ▸ HMM.out⟩
end Go.Proofs.YtelhdbkkigehgaaGreatDoor

