/- (*Model).Take of one span, new or known. -/
import Derived.Test.YtibakmchgppndaaSpans
namespace Go.Proofs.Ytibakmchgppndaa
open Go.RowKit Go.MapKept Go.Instr Go.ChangeMaps

theorem keptFF {a b c : World} (h : Kept (fun _ => False) a b) (k : Kept (fun _ => False) b c) : Kept (fun _ => False) a c := h.trans k (fun _ _ f => f) (fun _ _ f => f)
theorem look0' {w : World} {b : Nat} (h : w.heap[b]? = some (.map #[] 0)) : (Instr.lookup 68 (.map (some b)) kV true).run Try.prog w = .ok (.tuple #[spanZ, .bool false]) w := look0 h
theorem look1' {e : ByteArray} {w : World} {b : Nat} (h : w.heap[b]? = some (.map #[⟨.agg #[.int .i64 3, .int .i64 1], .agg #[.int .i64 3, .int .i64 1, .int .i64 0, .string ⟨#[97]⟩, .string ⟨#[104]⟩, .int .i64 10, .int .i64 0, .string e], 0⟩] 1)) : (Instr.lookup 68 (.map (some b)) kV true).run Try.prog w = .ok (.tuple #[spanV e, .bool true]) w := look1 h
theorem cell_map {w : World} {b j c : Nat} {es : Array MapEntry} (h : w.heap[b]? = some (.map es c)) : w.cell? ⟨b, j, none⟩ = none := by simp [World.cell?, h]
theorem set_same {w : World} {b : Nat} (o : Obj) (h : b < w.heap.size) : (setBlock w b o).heap[b]? = some o := by simp [setBlock, h]
theorem set_other {w : World} {b c : Nat} (o : Obj) (h : b ≠ c) : (setBlock w b o).heap[c]? = w.heap[c]? := by simp [setBlock, h]

set_option maxHeartbeats 8000000 in
set_option maxRecDepth 100000 in
theorem take_new {w : World} {p b g : Nat} {n : ByteArray} (now : Int) (h1 : 10 ≤ now) (h2 : now < 70) (hn : n.size ≤ 24) (hp : w.cell? ⟨p, 0, none⟩ = some (.map (some b))) (hb : w.heap[b]? = some (.map #[] 0)) (hl : ∀ j u, (cells8 n)[j]? = some u → w.cell? ⟨g, j, none⟩ = some u) :
    Calls Try.prog 9 #[.pointer (some ⟨p, 0, none⟩), .slice (some ⟨g, 0, none⟩) 1 1, .int .i64 now] w fun e w' => e = .returned (.int .i64 1) ∧ Kept (fun k => k = b) w w' ∧ ModAt w' p b n := by
  have N := Lib.hid (none_not p b w hp)
  have E := Lib.hid (expired_any n now h1 (by omega))
  have C := Lib.hid (check_any n hn)
  have HB := Lib.hid hb
  have HL := Lib.hid hl
  have HP := Lib.hid hp
  have e70 : decide (70 ≤ now) = false := by simp; omega
  have MK : ∀ W : World, (makeMap 72 none).run Try.prog W = .ok (.map (some W.heap.size)) (W.alloc (.map #[] 0)) := fun W => run_makeMap 72 W
  have BL0 := (Array.getElem?_eq_some_iff.1 hb).1
  clear hl hb
  go_enter Try.func9, Try.ntmps9
  go_wp2_with (go_at_call 28; refine N.out.mono ?_; rintro e w4 ⟨rfl, rfl⟩)
  go_loopg [7, 19] 1 (fun gh s t wr => (gh = 1 ∧ s = .int .i64 0 ∧ t = .int .i64 0 ∧ wr = w.alloc (.map #[] 0)) ∨ (gh = 0 ∧ s = .int .i64 1 ∧ t = .int .i64 1 ∧ Kept (fun k => k = b) w wr ∧ ModAt wr p b n))
  case atStart => exact .inl ⟨rfl, rfl, rfl, rfl⟩
  case round =>
    rcases hrel with ⟨rfl, rfl, rfl, rfl⟩ | ⟨rfl, rfl, rfl, kw, hm⟩
    · obtain ⟨W0, hW⟩ : ∃ W, w.alloc (.map #[] 0) = W := ⟨_, rfl⟩
      have kW : Kept (fun _ => False) w W0 := by rw [← hW]; exact (Kept.refl _ w).alloc _
      have hs0 : W0.heap[w.heap.size]? = some (.map #[] 0) := by rw [← hW]; exact heap_alloc_new w _
      have sW : W0.heap.size = w.heap.size + 1 := by rw [← hW]; simp
      rw [hW]
      clear hW
      have q0 := kW.cell (HL.out 0 _ rfl) (fun f => f)
      have q1 := kW.cell (HL.out 1 _ rfl) (fun f => f)
      have q2 := kW.cell (HL.out 2 _ rfl) (fun f => f)
      have q3 := kW.cell (HL.out 3 _ rfl) (fun f => f)
      have q4 := kW.cell (HL.out 4 _ rfl) (fun f => f)
      have q5 := kW.cell (HL.out 5 _ rfl) (fun f => f)
      have q6 := kW.cell (HL.out 6 _ rfl) (fun f => f)
      have q7 := kW.cell (HL.out 7 _ rfl) (fun f => f)
      have KW := Lib.hid kW; have HS := Lib.hid hs0; have SW := Lib.hid sW
      clear kW hs0 sW
      go_wp2
      obtain ⟨W, hW⟩ : ∃ W, (W0.alloc (.cells #[.int .i64 3, .int .i64 1, .int .i64 0, .string ⟨#[97]⟩, .string ⟨#[104]⟩, .int .i64 10, .int .i64 0, .string n] 37)).alloc (.cells #[.int .i64 3, .int .i64 1] 74) = W := ⟨_, rfl⟩
      obtain ⟨ns, hns⟩ : ∃ ns, W0.heap.size = ns := ⟨_, rfl⟩
      obtain ⟨nk, hnk⟩ : ∃ nk, ns + 1 = nk := ⟨_, rfl⟩
      have kA : Kept (fun _ => False) W0 (W0.alloc (.cells #[.int .i64 3, .int .i64 1, .int .i64 0, .string ⟨#[97]⟩, .string ⟨#[104]⟩, .int .i64 10, .int .i64 0, .string n] 37)) := (Kept.refl _ W0).alloc _
      have kB : Kept (fun _ => False) (W0.alloc (.cells #[.int .i64 3, .int .i64 1, .int .i64 0, .string ⟨#[97]⟩, .string ⟨#[104]⟩, .int .i64 10, .int .i64 0, .string n] 37)) W := by rw [← hW]; exact (Kept.refl _ _).alloc _
      have k0 : W.cell? ⟨nk, 0, none⟩ = some (.int .i64 3) := by rw [← hW, ← hnk, ← hns]; simp
      have k1 : W.cell? ⟨nk, 1, none⟩ = some (.int .i64 1) := by rw [← hW, ← hnk, ← hns]; simp
      have s0 : W.cell? ⟨ns, 0, none⟩ = some (.int .i64 3) := kB.cell (by rw [← hns]; simp) (fun f => f)
      have s1 : W.cell? ⟨ns, 1, none⟩ = some (.int .i64 1) := kB.cell (by rw [← hns]; simp) (fun f => f)
      have s2 : W.cell? ⟨ns, 2, none⟩ = some (.int .i64 0) := kB.cell (by rw [← hns]; simp) (fun f => f)
      have s3 : W.cell? ⟨ns, 3, none⟩ = some (.string ⟨#[97]⟩) := kB.cell (by rw [← hns]; simp) (fun f => f)
      have s4 : W.cell? ⟨ns, 4, none⟩ = some (.string ⟨#[104]⟩) := kB.cell (by rw [← hns]; simp) (fun f => f)
      have s5 : W.cell? ⟨ns, 5, none⟩ = some (.int .i64 10) := kB.cell (by rw [← hns]; simp) (fun f => f)
      have s6 : W.cell? ⟨ns, 6, none⟩ = some (.int .i64 0) := kB.cell (by rw [← hns]; simp) (fun f => f)
      have s7 : W.cell? ⟨ns, 7, none⟩ = some (.string n) := kB.cell (by rw [← hns]; simp) (fun f => f)
      have kC := keptFF KW.out (keptFF kA kB)
      have p0 := kC.cell HP.out (fun f => f)
      have hb : W.heap[b]? = some (.map #[] 0) := (kC.block b BL0 (fun f => f)).trans HB.out
      have BL := (Array.getElem?_eq_some_iff.1 hb).1
      have hsn : W.heap[w.heap.size]? = some (.map #[] 0) := ((keptFF kA kB).block _ (by have := SW.out; omega) (fun f => f)).trans HS.out
      have KC := Lib.hid kC
      rw [hW, hns, hnk]
      clear hW kA kB kC q0 q1 q2 q3 q4 q5 q6 q7
      refine wp_region_held_drew (S := (fun w' => w'.cell? ⟨p, 0, none⟩ = some (.map (some b)) ∧ w'.cell? ⟨nk, 0, none⟩ = some (.int .i64 3) ∧ w'.cell? ⟨nk, 1, none⟩ = some (.int .i64 1) ∧ w'.heap[b]? = some (.map #[] 0))) (by kernel_rfl) ?_ (fun hHeld => ?_)
      · exact ⟨p0, k0, k1, hb⟩
      refine wpAnyH_take (i := 0) (v := ?_) opAt0 (by kernel_rfl) (by kernel_rfl) (by kernel_rfl) (fun _ _ _ h => h) (Or.inl ⟨by rfl, ?_⟩) hHeld ?_
      case refine_2 => (intro w hSw; (try dsimp only at hSw); go_simp; all_goals (with_reducible rfl))
      (try simp only [Act.put]); (try simp only [List.setIfInBounds_toArray]); (try simp only [List.set_cons_succ]); (try simp only [List.set_cons_zero])
      refine wpAnyH_take (i := 1) (v := ?_) opAt1 (by kernel_rfl) (by kernel_rfl) (by kernel_rfl) (fun _ _ _ h => h) (Or.inl ⟨by rfl, ?_⟩) hHeld ?_
      case refine_2 => (intro w hSw; (try dsimp only at hSw); go_simp; all_goals (with_reducible rfl))
      (try simp only [Act.put]); (try simp only [List.setIfInBounds_toArray]); (try simp only [List.set_cons_succ]); (try simp only [List.set_cons_zero])
      refine wpAnyH_take (i := 2) (v := ?_) opAt2 (by kernel_rfl) (by kernel_rfl) (by kernel_rfl) (fun _ _ _ h => h) (Or.inl ⟨by rfl, ?_⟩) hHeld ?_
      case refine_2 => (intro w hSw; (try dsimp only at hSw); go_simp; all_goals (with_reducible rfl))
      (try simp only [Act.put]); (try simp only [List.setIfInBounds_toArray]); (try simp only [List.set_cons_succ]); (try simp only [List.set_cons_zero])
      refine wpAnyH_take (i := 3) (v := ?_) opAt3 (by kernel_rfl) (by kernel_rfl) (by kernel_rfl) (fun _ _ _ h => h) (Or.inl ⟨by rfl, ?_⟩) hHeld ?_
      case refine_2 => (intro w hSw; (try dsimp only at hSw); go_simp; all_goals (with_reducible rfl))
      (try simp only [Act.put]); (try simp only [List.setIfInBounds_toArray]); (try simp only [List.set_cons_succ]); (try simp only [List.set_cons_zero])
      refine wpAnyH_take (i := 4) (v := ?_) opAt4 (by kernel_rfl) (by kernel_rfl) (by kernel_rfl) (fun _ _ _ h => h) (Or.inl ⟨by rfl, ?_⟩) hHeld ?_
      case refine_2 => (intro w hSw; (try dsimp only at hSw); go_simp; all_goals (with_reducible rfl))
      (try simp only [Act.put]); (try simp only [List.setIfInBounds_toArray]); (try simp only [List.set_cons_succ]); (try simp only [List.set_cons_zero])
      refine wpAnyH_take (i := 5) (v := ?_) opAt5 (by kernel_rfl) (by kernel_rfl) (by kernel_rfl) (fun _ _ _ h => h) (Or.inl ⟨by rfl, ?_⟩) hHeld ?_
      case refine_2 => (intro w hSw; (try dsimp only at hSw); have LK := look0' hSw.2.2.2; unfold kV spanZ at LK; go_simp; all_goals (with_reducible rfl))
      (try simp only [Act.put]); (try simp only [List.setIfInBounds_toArray]); (try simp only [List.set_cons_succ]); (try simp only [List.set_cons_zero])
      refine wpAnyH_take (i := 6) (v := ?_) opAt6 (by kernel_rfl) (by kernel_rfl) (by kernel_rfl) (fun _ _ _ h => h) (Or.inl ⟨by rfl, ?_⟩) hHeld ?_
      case refine_2 => (intro w hSw; (try dsimp only at hSw); go_simp; all_goals (with_reducible rfl))
      (try simp only [Act.put]); (try simp only [List.setIfInBounds_toArray]); (try simp only [List.set_cons_succ]); (try simp only [List.set_cons_zero])
      refine wpAnyH_take (i := 7) (v := ?_) opAt7 (by kernel_rfl) (by kernel_rfl) (by kernel_rfl) (fun _ _ _ h => h) (Or.inl ⟨by rfl, ?_⟩) hHeld ?_
      case refine_2 => (intro w hSw; (try dsimp only at hSw); go_simp; all_goals (with_reducible rfl))
      (try simp only [Act.put]); (try simp only [List.setIfInBounds_toArray]); (try simp only [List.set_cons_succ]); (try simp only [List.set_cons_zero])
      refine wpAnyH_take (i := 8) (v := ?_) opAt8 (by kernel_rfl) (by kernel_rfl) (by kernel_rfl) (fun _ _ _ h => h) (Or.inl ⟨by rfl, ?_⟩) hHeld ?_
      case refine_2 => (intro w hSw; (try dsimp only at hSw); go_simp; all_goals (with_reducible rfl))
      (try simp only [Act.put]); (try simp only [List.setIfInBounds_toArray]); (try simp only [List.set_cons_succ]); (try simp only [List.set_cons_zero])
      refine wpAnyH_ready (rs := [9]) (by kernel_rfl) (by simp) ?_
      refine AllReadyH.cons opAt9 (fun K hK => ?_) AllReadyH.nil
      go_simp
      skip
      refine hK.out _ _ ?_ (fun hHeld => ?_)
      · exact ⟨(((Kept.refl (fun _ => False) W).alloc _).drew).cell p0 (fun f => f), (((Kept.refl (fun _ => False) W).alloc _).drew).cell k0 (fun f => f), (((Kept.refl (fun _ => False) W).alloc _).drew).cell k1 (fun f => f), ((((Kept.refl (fun _ => False) W).alloc _).drew).block b BL (fun f => f)).trans hb⟩
      clear hK K
      (try simp only [Act.put]); (try simp only [List.setIfInBounds_toArray]); (try simp only [List.set_cons_succ]); (try simp only [List.set_cons_zero])
      refine wpAnyH_ready (rs := [10]) (by kernel_rfl) (by simp) ?_
      refine AllReadyH.cons opAt10 (fun K hK => ?_) AllReadyH.nil
      go_simp
      skip
      refine hK.out _ _ ?_ (fun hHeld => ?_)
      · exact ⟨(((Kept.refl (fun _ => False) W).alloc _).drew).cell p0 (fun f => f), (((Kept.refl (fun _ => False) W).alloc _).drew).cell k0 (fun f => f), (((Kept.refl (fun _ => False) W).alloc _).drew).cell k1 (fun f => f), ((((Kept.refl (fun _ => False) W).alloc _).drew).block b BL (fun f => f)).trans hb⟩
      clear hK K
      (try simp only [Act.put]); (try simp only [List.setIfInBounds_toArray]); (try simp only [List.set_cons_succ]); (try simp only [List.set_cons_zero])
      refine wpAnyH_take (i := 11) (v := ?_) opAt11 (by kernel_rfl) (by kernel_rfl) (by kernel_rfl) (fun _ _ _ h => h) (Or.inl ⟨by rfl, ?_⟩) hHeld ?_
      case refine_2 => (intro w hSw; (try dsimp only at hSw); go_simp; all_goals (with_reducible rfl))
      (try simp only [Act.put]); (try simp only [List.setIfInBounds_toArray]); (try simp only [List.set_cons_succ]); (try simp only [List.set_cons_zero])
      refine wpAnyH_done (by kernel_rfl) ?_ _
      obtain ⟨W5, hW5⟩ : ∃ W5, (W.alloc (.cells #[.int .i64 0, .int .i64 0, .int .i64 0, .string ⟨#[]⟩, .string ⟨#[]⟩, .int .i64 0, .int .i64 0, .string ⟨#[]⟩] 37)).drew = W5 := ⟨_, rfl⟩
      have k5 : Kept (fun _ => False) W W5 := by rw [← hW5]; exact ((Kept.refl _ W).alloc _).drew
      rw [hW5]
      replace p0 := k5.cell p0 (fun f => f)
      replace k0 := k5.cell k0 (fun f => f)
      replace k1 := k5.cell k1 (fun f => f)
      replace s0 := k5.cell s0 (fun f => f)
      replace s1 := k5.cell s1 (fun f => f)
      replace s2 := k5.cell s2 (fun f => f)
      replace s3 := k5.cell s3 (fun f => f)
      replace s4 := k5.cell s4 (fun f => f)
      replace s5 := k5.cell s5 (fun f => f)
      replace s6 := k5.cell s6 (fun f => f)
      replace s7 := k5.cell s7 (fun f => f)
      replace hb := (k5.block b BL (fun f => f)).trans hb
      replace hsn := (k5.block _ (Array.getElem?_eq_some_iff.1 hsn).1 (fun f => f)).trans hsn
      replace BL := (Array.getElem?_eq_some_iff.1 hb).1
      have K5 := Lib.hid (keptFF KC.out k5)
      clear hW5 k5
      go_wp2_with fail
      refine (C.out _).mono ?_
      rintro e w6 ⟨rfl, k6⟩
      replace p0 := k6.cell p0 (fun f => f)
      replace k0 := k6.cell k0 (fun f => f)
      replace k1 := k6.cell k1 (fun f => f)
      replace s0 := k6.cell s0 (fun f => f)
      replace s1 := k6.cell s1 (fun f => f)
      replace s2 := k6.cell s2 (fun f => f)
      replace s3 := k6.cell s3 (fun f => f)
      replace s4 := k6.cell s4 (fun f => f)
      replace s5 := k6.cell s5 (fun f => f)
      replace s6 := k6.cell s6 (fun f => f)
      replace s7 := k6.cell s7 (fun f => f)
      replace hb := (k6.block b BL (fun f => f)).trans hb
      replace hsn := (k6.block _ (Array.getElem?_eq_some_iff.1 hsn).1 (fun f => f)).trans hsn
      replace BL := (Array.getElem?_eq_some_iff.1 hb).1
      have K6 := Lib.hid (keptFF K5.out k6)
      clear k6
      go_wp2_with fail
      refine (E.out _).mono ?_
      rw [e70]
      rintro e w7 ⟨rfl, k7⟩
      replace p0 := k7.cell p0 (fun f => f)
      replace k0 := k7.cell k0 (fun f => f)
      replace k1 := k7.cell k1 (fun f => f)
      replace s0 := k7.cell s0 (fun f => f)
      replace s1 := k7.cell s1 (fun f => f)
      replace s2 := k7.cell s2 (fun f => f)
      replace s3 := k7.cell s3 (fun f => f)
      replace s4 := k7.cell s4 (fun f => f)
      replace s5 := k7.cell s5 (fun f => f)
      replace s6 := k7.cell s6 (fun f => f)
      replace s7 := k7.cell s7 (fun f => f)
      replace hb := (k7.block b BL (fun f => f)).trans hb
      replace hsn := (k7.block _ (Array.getElem?_eq_some_iff.1 hsn).1 (fun f => f)).trans hsn
      replace BL := (Array.getElem?_eq_some_iff.1 hb).1
      have K7 := Lib.hid (keptFF K6.out k7)
      clear k7
      have SE := seen0 hsn
      unfold kV at SE
      go_wp2
      clear SE
      have np : ¬ p = b := fun e => by have h := cell_map (j := 0) hb; rw [← e, p0] at h; cases h
      have nnk : ¬ nk = b := fun e => by have h := cell_map (j := 0) hb; rw [← e, k0] at h; cases h
      have nns : ¬ ns = b := fun e => by have h := cell_map (j := 0) hb; rw [← e, s0] at h; cases h
      have np2 : ¬ p = w.heap.size := fun e => by have h := cell_map (j := 0) hsn; rw [← e, p0] at h; cases h
      have nnk2 : ¬ nk = w.heap.size := fun e => by have h := cell_map (j := 0) hsn; rw [← e, k0] at h; cases h
      have nns2 : ¬ ns = w.heap.size := fun e => by have h := cell_map (j := 0) hsn; rw [← e, s0] at h; cases h
      have nbs : b ≠ w.heap.size := by omega
      obtain ⟨A1, hA1⟩ : ∃ A, setBlock w7.drew b (.map #[⟨kV, spanZ, 0⟩] 1) = A := ⟨_, rfl⟩
      obtain ⟨A2, hA2⟩ : ∃ A, setBlock A1 b (.map #[⟨kV, spanV n, 0⟩] 1) = A := ⟨_, rfl⟩
      obtain ⟨A3, hA3⟩ : ∃ A, setBlock A2 w.heap.size (.map #[⟨kV, .int .i64 1, 0⟩] 1) = A := ⟨_, rfl⟩
      have b1 : A1.heap[b]? = some (.map #[⟨kV, spanZ, 0⟩] 1) := by rw [← hA1]; exact set_same _ BL
      have b2 : A2.heap[b]? = some (.map #[⟨kV, spanV n, 0⟩] 1) := by rw [← hA2]; exact set_same _ (Array.getElem?_eq_some_iff.1 b1).1
      have b3 : A3.heap[b]? = some (.map #[⟨kV, spanV n, 0⟩] 1) := by rw [← hA3, set_other _ nbs.symm]; exact b2
      have c1 : A1.heap[w.heap.size]? = some (.map #[] 0) := by rw [← hA1, set_other _ nbs]; exact hsn
      have c2 : A2.heap[w.heap.size]? = some (.map #[] 0) := by rw [← hA2, set_other _ nbs]; exact c1
      have EQ1 := entry0 (w := w7.drew) (b := b) hb
      have EQ2 := store1 (v := spanV n) b1
      have EQ3 := put0 c2 (.int .i64 1)
      rw [hA1] at EQ1; rw [hA2] at EQ2; rw [hA3] at EQ3
      unfold kV spanZ at EQ1; unfold spanV at EQ2; unfold kV at EQ3
      have KE1 : Kept (fun k => k = b) w7.drew A1 := by rw [← hA1]; exact kept_setBlock (S := fun k => k = _) (Kept.refl _ _) (fun _ => rfl) _
      have KE2 : Kept (fun k => k = b) A1 A2 := by rw [← hA2]; exact kept_setBlock (S := fun k => k = _) (Kept.refl _ _) (fun _ => rfl) _
      have KE3 : Kept (fun k => k = w.heap.size) A2 A3 := by rw [← hA3]; exact kept_setBlock (S := fun k => k = _) (Kept.refl _ _) (fun _ => rfl) _
      have B3 := Lib.hid b3
      have p5 := p0; have k05 := k0; have k15 := k1
      clear hA1 hA2 hA3 b1 b2 b3 c1 c2 hb hsn
      refine wp_region_held_drew (S := (fun w' => w'.cell? ⟨p, 0, none⟩ = some (.map (some b)) ∧ w'.cell? ⟨nk, 0, none⟩ = some (.int .i64 3) ∧ w'.cell? ⟨nk, 1, none⟩ = some (.int .i64 1) ∧ w'.cell? ⟨ns, 0, none⟩ = some (.int .i64 3) ∧ w'.cell? ⟨ns, 1, none⟩ = some (.int .i64 1) ∧ w'.cell? ⟨ns, 2, none⟩ = some (.int .i64 0) ∧ w'.cell? ⟨ns, 3, none⟩ = some (.string ⟨#[97]⟩) ∧ w'.cell? ⟨ns, 4, none⟩ = some (.string ⟨#[104]⟩) ∧ w'.cell? ⟨ns, 5, none⟩ = some (.int .i64 10) ∧ w'.cell? ⟨ns, 6, none⟩ = some (.int .i64 0) ∧ w'.cell? ⟨ns, 7, none⟩ = some (.string n))) (by kernel_rfl) ?_ (fun hHeld => ?_)
      · exact ⟨p5, k05, k15, s0, s1, s2, s3, s4, s5, s6, s7⟩
      refine wpAnyH_take (i := 0) (v := ?_) opAt0 (by kernel_rfl) (by kernel_rfl) (by kernel_rfl) (fun _ _ _ h => h) (Or.inl ⟨by rfl, ?_⟩) hHeld ?_
      case refine_2 => (intro w hSw; (try dsimp only at hSw); go_simp; all_goals (with_reducible rfl))
      (try simp only [Act.put]); (try simp only [List.setIfInBounds_toArray]); (try simp only [List.set_cons_succ]); (try simp only [List.set_cons_zero])
      refine wpAnyH_take (i := 1) (v := ?_) opAt1 (by kernel_rfl) (by kernel_rfl) (by kernel_rfl) (fun _ _ _ h => h) (Or.inl ⟨by rfl, ?_⟩) hHeld ?_
      case refine_2 => (intro w hSw; (try dsimp only at hSw); go_simp; all_goals (with_reducible rfl))
      (try simp only [Act.put]); (try simp only [List.setIfInBounds_toArray]); (try simp only [List.set_cons_succ]); (try simp only [List.set_cons_zero])
      refine wpAnyH_take (i := 2) (v := ?_) opAt2 (by kernel_rfl) (by kernel_rfl) (by kernel_rfl) (fun _ _ _ h => h) (Or.inl ⟨by rfl, ?_⟩) hHeld ?_
      case refine_2 => (intro w hSw; (try dsimp only at hSw); go_simp; all_goals (with_reducible rfl))
      (try simp only [Act.put]); (try simp only [List.setIfInBounds_toArray]); (try simp only [List.set_cons_succ]); (try simp only [List.set_cons_zero])
      refine wpAnyH_take (i := 3) (v := ?_) opAt3 (by kernel_rfl) (by kernel_rfl) (by kernel_rfl) (fun _ _ _ h => h) (Or.inl ⟨by rfl, ?_⟩) hHeld ?_
      case refine_2 => (intro w hSw; (try dsimp only at hSw); go_simp; all_goals (with_reducible rfl))
      (try simp only [Act.put]); (try simp only [List.setIfInBounds_toArray]); (try simp only [List.set_cons_succ]); (try simp only [List.set_cons_zero])
      refine wpAnyH_take (i := 4) (v := ?_) opAt4 (by kernel_rfl) (by kernel_rfl) (by kernel_rfl) (fun _ _ _ h => h) (Or.inl ⟨by rfl, ?_⟩) hHeld ?_
      case refine_2 => (intro w hSw; (try dsimp only at hSw); go_simp; all_goals (with_reducible rfl))
      (try simp only [Act.put]); (try simp only [List.setIfInBounds_toArray]); (try simp only [List.set_cons_succ]); (try simp only [List.set_cons_zero])
      refine wpAnyH_take (i := 5) (v := ?_) opAt5 (by kernel_rfl) (by kernel_rfl) (by kernel_rfl) (fun _ _ _ h => h) (Or.inl ⟨by rfl, ?_⟩) hHeld ?_
      case refine_2 => (intro w hSw; (try dsimp only at hSw); go_simp; all_goals (with_reducible rfl))
      (try simp only [Act.put]); (try simp only [List.setIfInBounds_toArray]); (try simp only [List.set_cons_succ]); (try simp only [List.set_cons_zero])
      refine wpAnyH_take (i := 6) (v := ?_) opAt6 (by kernel_rfl) (by kernel_rfl) (by kernel_rfl) (fun _ _ _ h => h) (Or.inl ⟨by rfl, ?_⟩) hHeld ?_
      case refine_2 => (intro w hSw; (try dsimp only at hSw); go_simp; all_goals (with_reducible rfl))
      (try simp only [Act.put]); (try simp only [List.setIfInBounds_toArray]); (try simp only [List.set_cons_succ]); (try simp only [List.set_cons_zero])
      refine wpAnyH_take (i := 7) (v := ?_) opAt7 (by kernel_rfl) (by kernel_rfl) (by kernel_rfl) (fun _ _ _ h => h) (Or.inl ⟨by rfl, ?_⟩) hHeld ?_
      case refine_2 => (intro w hSw; (try dsimp only at hSw); go_simp; all_goals (with_reducible rfl))
      (try simp only [Act.put]); (try simp only [List.setIfInBounds_toArray]); (try simp only [List.set_cons_succ]); (try simp only [List.set_cons_zero])
      refine wpAnyH_ready (rs := [8]) (by kernel_rfl) (by simp) ?_
      refine AllReadyH.cons opAt8 (fun K hK => ?_) AllReadyH.nil
      go_simp
      skip
      refine hK.out _ _ ?_ (fun hHeld => ?_)
      · exact ⟨KE1.cell hHeld.1 (fun e => np e), KE1.cell hHeld.2.1 (fun e => nnk e), KE1.cell hHeld.2.2.1 (fun e => nnk e), KE1.cell hHeld.2.2.2.1 (fun e => nns e), KE1.cell hHeld.2.2.2.2.1 (fun e => nns e), KE1.cell hHeld.2.2.2.2.2.1 (fun e => nns e), KE1.cell hHeld.2.2.2.2.2.2.1 (fun e => nns e), KE1.cell hHeld.2.2.2.2.2.2.2.1 (fun e => nns e), KE1.cell hHeld.2.2.2.2.2.2.2.2.1 (fun e => nns e), KE1.cell hHeld.2.2.2.2.2.2.2.2.2.1 (fun e => nns e), KE1.cell hHeld.2.2.2.2.2.2.2.2.2.2 (fun e => nns e)⟩
      clear hK K
      (try simp only [Act.put]); (try simp only [List.setIfInBounds_toArray]); (try simp only [List.set_cons_succ]); (try simp only [List.set_cons_zero])
      refine wpAnyH_take (i := 9) (v := ?_) opAt9 (by kernel_rfl) (by kernel_rfl) (by kernel_rfl) (fun _ _ _ h => h) (Or.inl ⟨by rfl, ?_⟩) hHeld ?_
      case refine_2 => (intro w hSw; (try dsimp only at hSw); go_simp; all_goals (with_reducible rfl))
      (try simp only [Act.put]); (try simp only [List.setIfInBounds_toArray]); (try simp only [List.set_cons_succ]); (try simp only [List.set_cons_zero])
      refine wpAnyH_ready (rs := [10]) (by kernel_rfl) (by simp) ?_
      refine AllReadyH.cons opAt10 (fun K hK => ?_) AllReadyH.nil
      go_simp
      skip
      refine hK.out _ _ ?_ (fun hHeld => ?_)
      · exact ⟨KE2.cell hHeld.1 (fun e => np e), KE2.cell hHeld.2.1 (fun e => nnk e), KE2.cell hHeld.2.2.1 (fun e => nnk e), KE2.cell hHeld.2.2.2.1 (fun e => nns e), KE2.cell hHeld.2.2.2.2.1 (fun e => nns e), KE2.cell hHeld.2.2.2.2.2.1 (fun e => nns e), KE2.cell hHeld.2.2.2.2.2.2.1 (fun e => nns e), KE2.cell hHeld.2.2.2.2.2.2.2.1 (fun e => nns e), KE2.cell hHeld.2.2.2.2.2.2.2.2.1 (fun e => nns e), KE2.cell hHeld.2.2.2.2.2.2.2.2.2.1 (fun e => nns e), KE2.cell hHeld.2.2.2.2.2.2.2.2.2.2 (fun e => nns e)⟩
      clear hK K
      (try simp only [Act.put]); (try simp only [List.setIfInBounds_toArray]); (try simp only [List.set_cons_succ]); (try simp only [List.set_cons_zero])
      refine wpAnyH_ready (rs := [11]) (by kernel_rfl) (by simp) ?_
      refine AllReadyH.cons opAt11 (fun K hK => ?_) AllReadyH.nil
      go_simp
      skip
      refine hK.out _ _ ?_ (fun hHeld => ?_)
      · exact ⟨KE3.cell hHeld.1 (fun e => np2 e), KE3.cell hHeld.2.1 (fun e => nnk2 e), KE3.cell hHeld.2.2.1 (fun e => nnk2 e), KE3.cell hHeld.2.2.2.1 (fun e => nns2 e), KE3.cell hHeld.2.2.2.2.1 (fun e => nns2 e), KE3.cell hHeld.2.2.2.2.2.1 (fun e => nns2 e), KE3.cell hHeld.2.2.2.2.2.2.1 (fun e => nns2 e), KE3.cell hHeld.2.2.2.2.2.2.2.1 (fun e => nns2 e), KE3.cell hHeld.2.2.2.2.2.2.2.2.1 (fun e => nns2 e), KE3.cell hHeld.2.2.2.2.2.2.2.2.2.1 (fun e => nns2 e), KE3.cell hHeld.2.2.2.2.2.2.2.2.2.2 (fun e => nns2 e)⟩
      clear hK K
      (try simp only [Act.put]); (try simp only [List.setIfInBounds_toArray]); (try simp only [List.set_cons_succ]); (try simp only [List.set_cons_zero])
      refine wpAnyH_done (by kernel_rfl) ?_ _
      have kf : Kept (fun k => k = b) w A3 := (((K7.out.drew).mono (fun _ _ f => f.elim)).trans (KE1.trans KE2 (fun _ _ h => h) (fun _ _ h => h)) (fun _ _ h => h) (fun _ _ h => h)).trans KE3 (fun _ _ h => h) (fun i hi h => by omega)
      have pf : A3.cell? ⟨p, 0, none⟩ = some (.map (some b)) := KE3.cell (KE2.cell (KE1.cell p5 np) np) np2
      have KF := Lib.hid kf
      have MF := Lib.hid (show ModAt A3 p b n from ⟨pf, B3.out⟩)
      clear kf pf EQ1 EQ2 EQ3
      go_wp2
      go_roundg 0
      case measure => omega
      case rel => exact .inr ⟨rfl, by go_num, by go_num, KF.out, MF.out⟩
    · have KF := Lib.hid kw; have MF := Lib.hid hm
      clear kw hm
      go_wp2
      go_ret
      exact ⟨rfl, KF.out, MF.out⟩

set_option maxHeartbeats 8000000 in
set_option maxRecDepth 100000 in
theorem take_old {w : World} {p b g : Nat} {n e : ByteArray} (now : Int) (h1 : 10 ≤ now) (h2 : now ≤ 70) (hn : n.size ≤ 24) (hm : ModAt w p b e) (hl : ∀ j u, (cells8 n)[j]? = some u → w.cell? ⟨g, j, none⟩ = some u) :
    Calls Try.prog 9 #[.pointer (some ⟨p, 0, none⟩), .slice (some ⟨g, 0, none⟩) 1 1, .int .i64 now] w fun r w' => r = .returned (.int .i64 0) ∧ Kept (fun _ => False) w w' := by
  have N := Lib.hid (none_not p b w hm.cell)
  have E := Lib.hid (expired_any n now h1 (by omega))
  have E2 := Lib.hid (expired_any e now h1 (by omega))
  have C := Lib.hid (check_any n hn)
  have HB := Lib.hid hm.map
  have HL := Lib.hid hl
  have HP := Lib.hid hm.cell
  have MK : ∀ W : World, (makeMap 72 none).run Try.prog W = .ok (.map (some W.heap.size)) (W.alloc (.map #[] 0)) := fun W => run_makeMap 72 W
  have BL0 := hm.lt
  have hp := hm.cell
  clear hl hm
  go_enter Try.func9, Try.ntmps9
  go_wp2_with (go_at_call 28; refine N.out.mono ?_; rintro e w4 ⟨rfl, rfl⟩)
  go_loopg [7, 19] 1 (fun gh s t wr => (gh = 1 ∧ s = .int .i64 0 ∧ t = .int .i64 0 ∧ wr = w.alloc (.map #[] 0)) ∨ (gh = 0 ∧ s = .int .i64 0 ∧ t = .int .i64 1 ∧ Kept (fun _ => False) w wr))
  case atStart => exact .inl ⟨rfl, rfl, rfl, rfl⟩
  case round =>
    rcases hrel with ⟨rfl, rfl, rfl, rfl⟩ | ⟨rfl, rfl, rfl, kw⟩
    · obtain ⟨W0, hW⟩ : ∃ W, w.alloc (.map #[] 0) = W := ⟨_, rfl⟩
      have kW : Kept (fun _ => False) w W0 := by rw [← hW]; exact (Kept.refl _ w).alloc _
      have hs0 : W0.heap[w.heap.size]? = some (.map #[] 0) := by rw [← hW]; exact heap_alloc_new w _
      have sW : W0.heap.size = w.heap.size + 1 := by rw [← hW]; simp
      rw [hW]
      clear hW
      have q0 := kW.cell (HL.out 0 _ rfl) (fun f => f)
      have q1 := kW.cell (HL.out 1 _ rfl) (fun f => f)
      have q2 := kW.cell (HL.out 2 _ rfl) (fun f => f)
      have q3 := kW.cell (HL.out 3 _ rfl) (fun f => f)
      have q4 := kW.cell (HL.out 4 _ rfl) (fun f => f)
      have q5 := kW.cell (HL.out 5 _ rfl) (fun f => f)
      have q6 := kW.cell (HL.out 6 _ rfl) (fun f => f)
      have q7 := kW.cell (HL.out 7 _ rfl) (fun f => f)
      have KW := Lib.hid kW; have HS := Lib.hid hs0; have SW := Lib.hid sW
      clear kW hs0 sW
      go_wp2
      obtain ⟨W, hW⟩ : ∃ W, (W0.alloc (.cells #[.int .i64 3, .int .i64 1, .int .i64 0, .string ⟨#[97]⟩, .string ⟨#[104]⟩, .int .i64 10, .int .i64 0, .string n] 37)).alloc (.cells #[.int .i64 3, .int .i64 1] 74) = W := ⟨_, rfl⟩
      obtain ⟨ns, hns⟩ : ∃ ns, W0.heap.size = ns := ⟨_, rfl⟩
      obtain ⟨nk, hnk⟩ : ∃ nk, ns + 1 = nk := ⟨_, rfl⟩
      have kA : Kept (fun _ => False) W0 (W0.alloc (.cells #[.int .i64 3, .int .i64 1, .int .i64 0, .string ⟨#[97]⟩, .string ⟨#[104]⟩, .int .i64 10, .int .i64 0, .string n] 37)) := (Kept.refl _ W0).alloc _
      have kB : Kept (fun _ => False) (W0.alloc (.cells #[.int .i64 3, .int .i64 1, .int .i64 0, .string ⟨#[97]⟩, .string ⟨#[104]⟩, .int .i64 10, .int .i64 0, .string n] 37)) W := by rw [← hW]; exact (Kept.refl _ _).alloc _
      have k0 : W.cell? ⟨nk, 0, none⟩ = some (.int .i64 3) := by rw [← hW, ← hnk, ← hns]; simp
      have k1 : W.cell? ⟨nk, 1, none⟩ = some (.int .i64 1) := by rw [← hW, ← hnk, ← hns]; simp
      have s0 : W.cell? ⟨ns, 0, none⟩ = some (.int .i64 3) := kB.cell (by rw [← hns]; simp) (fun f => f)
      have s1 : W.cell? ⟨ns, 1, none⟩ = some (.int .i64 1) := kB.cell (by rw [← hns]; simp) (fun f => f)
      have s2 : W.cell? ⟨ns, 2, none⟩ = some (.int .i64 0) := kB.cell (by rw [← hns]; simp) (fun f => f)
      have s3 : W.cell? ⟨ns, 3, none⟩ = some (.string ⟨#[97]⟩) := kB.cell (by rw [← hns]; simp) (fun f => f)
      have s4 : W.cell? ⟨ns, 4, none⟩ = some (.string ⟨#[104]⟩) := kB.cell (by rw [← hns]; simp) (fun f => f)
      have s5 : W.cell? ⟨ns, 5, none⟩ = some (.int .i64 10) := kB.cell (by rw [← hns]; simp) (fun f => f)
      have s6 : W.cell? ⟨ns, 6, none⟩ = some (.int .i64 0) := kB.cell (by rw [← hns]; simp) (fun f => f)
      have s7 : W.cell? ⟨ns, 7, none⟩ = some (.string n) := kB.cell (by rw [← hns]; simp) (fun f => f)
      have kC := keptFF KW.out (keptFF kA kB)
      have p0 := kC.cell HP.out (fun f => f)
      have hb : W.heap[b]? = some (.map #[⟨kV, spanV e, 0⟩] 1) := (kC.block b BL0 (fun f => f)).trans HB.out
      have BL := (Array.getElem?_eq_some_iff.1 hb).1
      have hsn : W.heap[w.heap.size]? = some (.map #[] 0) := ((keptFF kA kB).block _ (by have := SW.out; omega) (fun f => f)).trans HS.out
      have KC := Lib.hid kC
      rw [hW, hns, hnk]
      have b' : W.heap[b]? = some (.map #[⟨.agg #[.int .i64 3, .int .i64 1], .agg #[.int .i64 3, .int .i64 1, .int .i64 0, .string ⟨#[97]⟩, .string ⟨#[104]⟩, .int .i64 10, .int .i64 0, .string e], 0⟩] 1) := hb
      clear hW kA kB kC q0 q1 q2 q3 q4 q5 q6 q7 hb
      have hb := b'
      refine wp_region_held_drew (S := (fun w' => w'.cell? ⟨p, 0, none⟩ = some (.map (some b)) ∧ w'.cell? ⟨nk, 0, none⟩ = some (.int .i64 3) ∧ w'.cell? ⟨nk, 1, none⟩ = some (.int .i64 1) ∧ w'.heap[b]? = some (.map #[⟨.agg #[.int .i64 3, .int .i64 1], .agg #[.int .i64 3, .int .i64 1, .int .i64 0, .string ⟨#[97]⟩, .string ⟨#[104]⟩, .int .i64 10, .int .i64 0, .string e], 0⟩] 1))) (by kernel_rfl) ?_ (fun hHeld => ?_)
      · exact ⟨p0, k0, k1, hb⟩
      refine wpAnyH_take (i := 0) (v := ?_) opAt0 (by kernel_rfl) (by kernel_rfl) (by kernel_rfl) (fun _ _ _ h => h) (Or.inl ⟨by rfl, ?_⟩) hHeld ?_
      case refine_2 => (intro w hSw; (try dsimp only at hSw); go_simp; all_goals (with_reducible rfl))
      (try simp only [Act.put]); (try simp only [List.setIfInBounds_toArray]); (try simp only [List.set_cons_succ]); (try simp only [List.set_cons_zero])
      refine wpAnyH_take (i := 1) (v := ?_) opAt1 (by kernel_rfl) (by kernel_rfl) (by kernel_rfl) (fun _ _ _ h => h) (Or.inl ⟨by rfl, ?_⟩) hHeld ?_
      case refine_2 => (intro w hSw; (try dsimp only at hSw); go_simp; all_goals (with_reducible rfl))
      (try simp only [Act.put]); (try simp only [List.setIfInBounds_toArray]); (try simp only [List.set_cons_succ]); (try simp only [List.set_cons_zero])
      refine wpAnyH_take (i := 2) (v := ?_) opAt2 (by kernel_rfl) (by kernel_rfl) (by kernel_rfl) (fun _ _ _ h => h) (Or.inl ⟨by rfl, ?_⟩) hHeld ?_
      case refine_2 => (intro w hSw; (try dsimp only at hSw); go_simp; all_goals (with_reducible rfl))
      (try simp only [Act.put]); (try simp only [List.setIfInBounds_toArray]); (try simp only [List.set_cons_succ]); (try simp only [List.set_cons_zero])
      refine wpAnyH_take (i := 3) (v := ?_) opAt3 (by kernel_rfl) (by kernel_rfl) (by kernel_rfl) (fun _ _ _ h => h) (Or.inl ⟨by rfl, ?_⟩) hHeld ?_
      case refine_2 => (intro w hSw; (try dsimp only at hSw); go_simp; all_goals (with_reducible rfl))
      (try simp only [Act.put]); (try simp only [List.setIfInBounds_toArray]); (try simp only [List.set_cons_succ]); (try simp only [List.set_cons_zero])
      refine wpAnyH_take (i := 4) (v := ?_) opAt4 (by kernel_rfl) (by kernel_rfl) (by kernel_rfl) (fun _ _ _ h => h) (Or.inl ⟨by rfl, ?_⟩) hHeld ?_
      case refine_2 => (intro w hSw; (try dsimp only at hSw); go_simp; all_goals (with_reducible rfl))
      (try simp only [Act.put]); (try simp only [List.setIfInBounds_toArray]); (try simp only [List.set_cons_succ]); (try simp only [List.set_cons_zero])
      refine wpAnyH_take (i := 5) (v := ?_) opAt5 (by kernel_rfl) (by kernel_rfl) (by kernel_rfl) (fun _ _ _ h => h) (Or.inl ⟨by rfl, ?_⟩) hHeld ?_
      case refine_2 => (intro w hSw; (try dsimp only at hSw); have LK := look1' hSw.2.2.2; unfold kV spanV at LK; go_simp; all_goals (with_reducible rfl))
      (try simp only [Act.put]); (try simp only [List.setIfInBounds_toArray]); (try simp only [List.set_cons_succ]); (try simp only [List.set_cons_zero])
      refine wpAnyH_take (i := 6) (v := ?_) opAt6 (by kernel_rfl) (by kernel_rfl) (by kernel_rfl) (fun _ _ _ h => h) (Or.inl ⟨by rfl, ?_⟩) hHeld ?_
      case refine_2 => (intro w hSw; (try dsimp only at hSw); go_simp; all_goals (with_reducible rfl))
      (try simp only [Act.put]); (try simp only [List.setIfInBounds_toArray]); (try simp only [List.set_cons_succ]); (try simp only [List.set_cons_zero])
      refine wpAnyH_take (i := 7) (v := ?_) opAt7 (by kernel_rfl) (by kernel_rfl) (by kernel_rfl) (fun _ _ _ h => h) (Or.inl ⟨by rfl, ?_⟩) hHeld ?_
      case refine_2 => (intro w hSw; (try dsimp only at hSw); go_simp; all_goals (with_reducible rfl))
      (try simp only [Act.put]); (try simp only [List.setIfInBounds_toArray]); (try simp only [List.set_cons_succ]); (try simp only [List.set_cons_zero])
      refine wpAnyH_take (i := 8) (v := ?_) opAt8 (by kernel_rfl) (by kernel_rfl) (by kernel_rfl) (fun _ _ _ h => h) (Or.inl ⟨by rfl, ?_⟩) hHeld ?_
      case refine_2 => (intro w hSw; (try dsimp only at hSw); go_simp; all_goals (with_reducible rfl))
      (try simp only [Act.put]); (try simp only [List.setIfInBounds_toArray]); (try simp only [List.set_cons_succ]); (try simp only [List.set_cons_zero])
      refine wpAnyH_ready (rs := [9]) (by kernel_rfl) (by simp) ?_
      refine AllReadyH.cons opAt9 (fun K hK => ?_) AllReadyH.nil
      go_simp
      skip
      refine hK.out _ _ ?_ (fun hHeld => ?_)
      · exact ⟨(((Kept.refl (fun _ => False) W).alloc _).drew).cell p0 (fun f => f), (((Kept.refl (fun _ => False) W).alloc _).drew).cell k0 (fun f => f), (((Kept.refl (fun _ => False) W).alloc _).drew).cell k1 (fun f => f), ((((Kept.refl (fun _ => False) W).alloc _).drew).block b BL (fun f => f)).trans hb⟩
      clear hK K
      (try simp only [Act.put]); (try simp only [List.setIfInBounds_toArray]); (try simp only [List.set_cons_succ]); (try simp only [List.set_cons_zero])
      refine wpAnyH_ready (rs := [10]) (by kernel_rfl) (by simp) ?_
      refine AllReadyH.cons opAt10 (fun K hK => ?_) AllReadyH.nil
      go_simp
      skip
      refine hK.out _ _ ?_ (fun hHeld => ?_)
      · exact ⟨(((Kept.refl (fun _ => False) W).alloc _).drew).cell p0 (fun f => f), (((Kept.refl (fun _ => False) W).alloc _).drew).cell k0 (fun f => f), (((Kept.refl (fun _ => False) W).alloc _).drew).cell k1 (fun f => f), ((((Kept.refl (fun _ => False) W).alloc _).drew).block b BL (fun f => f)).trans hb⟩
      clear hK K
      (try simp only [Act.put]); (try simp only [List.setIfInBounds_toArray]); (try simp only [List.set_cons_succ]); (try simp only [List.set_cons_zero])
      refine wpAnyH_take (i := 11) (v := ?_) opAt11 (by kernel_rfl) (by kernel_rfl) (by kernel_rfl) (fun _ _ _ h => h) (Or.inl ⟨by rfl, ?_⟩) hHeld ?_
      case refine_2 => (intro w hSw; (try dsimp only at hSw); go_simp; all_goals (with_reducible rfl))
      (try simp only [Act.put]); (try simp only [List.setIfInBounds_toArray]); (try simp only [List.set_cons_succ]); (try simp only [List.set_cons_zero])
      refine wpAnyH_done (by kernel_rfl) ?_ _
      obtain ⟨W5, hW5⟩ : ∃ W5, (W.alloc (.cells #[.int .i64 3, .int .i64 1, .int .i64 0, .string ⟨#[97]⟩, .string ⟨#[104]⟩, .int .i64 10, .int .i64 0, .string e] 37)).drew = W5 := ⟨_, rfl⟩
      have k5 : Kept (fun _ => False) W W5 := by rw [← hW5]; exact ((Kept.refl _ W).alloc _).drew
      obtain ⟨no, hno⟩ : ∃ no, W.heap.size = no := ⟨_, rfl⟩
      have o0 : W5.cell? ⟨no, 0, none⟩ = some (.int .i64 3) := by rw [← hW5, ← hno]; simp
      have o1 : W5.cell? ⟨no, 1, none⟩ = some (.int .i64 1) := by rw [← hW5, ← hno]; simp
      have o2 : W5.cell? ⟨no, 2, none⟩ = some (.int .i64 0) := by rw [← hW5, ← hno]; simp
      have o3 : W5.cell? ⟨no, 3, none⟩ = some (.string ⟨#[97]⟩) := by rw [← hW5, ← hno]; simp
      have o4 : W5.cell? ⟨no, 4, none⟩ = some (.string ⟨#[104]⟩) := by rw [← hW5, ← hno]; simp
      have o5 : W5.cell? ⟨no, 5, none⟩ = some (.int .i64 10) := by rw [← hW5, ← hno]; simp
      have o6 : W5.cell? ⟨no, 6, none⟩ = some (.int .i64 0) := by rw [← hW5, ← hno]; simp
      have o7 : W5.cell? ⟨no, 7, none⟩ = some (.string e) := by rw [← hW5, ← hno]; simp
      rw [hW5, hno]
      replace p0 := k5.cell p0 (fun f => f)
      replace k0 := k5.cell k0 (fun f => f)
      replace k1 := k5.cell k1 (fun f => f)
      replace s0 := k5.cell s0 (fun f => f)
      replace s1 := k5.cell s1 (fun f => f)
      replace s2 := k5.cell s2 (fun f => f)
      replace s3 := k5.cell s3 (fun f => f)
      replace s4 := k5.cell s4 (fun f => f)
      replace s5 := k5.cell s5 (fun f => f)
      replace s6 := k5.cell s6 (fun f => f)
      replace s7 := k5.cell s7 (fun f => f)
      replace hb := (k5.block b BL (fun f => f)).trans hb
      replace hsn := (k5.block _ (Array.getElem?_eq_some_iff.1 hsn).1 (fun f => f)).trans hsn
      replace BL := (Array.getElem?_eq_some_iff.1 hb).1
      have K5 := Lib.hid (keptFF KC.out k5)
      clear hW5 k5
      go_wp2_with fail
      refine (C.out _).mono ?_
      rintro r w6 ⟨rfl, k6⟩
      replace p0 := k6.cell p0 (fun f => f)
      replace k0 := k6.cell k0 (fun f => f)
      replace k1 := k6.cell k1 (fun f => f)
      replace s0 := k6.cell s0 (fun f => f)
      replace s1 := k6.cell s1 (fun f => f)
      replace s2 := k6.cell s2 (fun f => f)
      replace s3 := k6.cell s3 (fun f => f)
      replace s4 := k6.cell s4 (fun f => f)
      replace s5 := k6.cell s5 (fun f => f)
      replace s6 := k6.cell s6 (fun f => f)
      replace s7 := k6.cell s7 (fun f => f)
      replace o0 := k6.cell o0 (fun f => f)
      replace o1 := k6.cell o1 (fun f => f)
      replace o2 := k6.cell o2 (fun f => f)
      replace o3 := k6.cell o3 (fun f => f)
      replace o4 := k6.cell o4 (fun f => f)
      replace o5 := k6.cell o5 (fun f => f)
      replace o6 := k6.cell o6 (fun f => f)
      replace o7 := k6.cell o7 (fun f => f)
      replace hb := (k6.block b BL (fun f => f)).trans hb
      replace hsn := (k6.block _ (Array.getElem?_eq_some_iff.1 hsn).1 (fun f => f)).trans hsn
      replace BL := (Array.getElem?_eq_some_iff.1 hb).1
      have K6 := Lib.hid (keptFF K5.out k6)
      clear k6
      go_wp2_with fail
      refine (E.out _).mono ?_
      by_cases hnow : 70 ≤ now
      · rw [decide_eq_true hnow]
        rintro r w7 ⟨rfl, k7⟩
        have K7 := Lib.hid (keptFF K6.out k7)
        clear k7
        go_wp2
        go_roundg 0
        case measure => omega
        case rel => exact .inr ⟨rfl, rfl, by go_num, K7.out⟩
      · rw [decide_eq_false hnow]
        rintro r w7 ⟨rfl, k7⟩
        replace p0 := k7.cell p0 (fun f => f)
        replace k0 := k7.cell k0 (fun f => f)
        replace k1 := k7.cell k1 (fun f => f)
        replace s0 := k7.cell s0 (fun f => f)
        replace s1 := k7.cell s1 (fun f => f)
        replace s2 := k7.cell s2 (fun f => f)
        replace s3 := k7.cell s3 (fun f => f)
        replace s4 := k7.cell s4 (fun f => f)
        replace s5 := k7.cell s5 (fun f => f)
        replace s6 := k7.cell s6 (fun f => f)
        replace s7 := k7.cell s7 (fun f => f)
        replace o0 := k7.cell o0 (fun f => f)
        replace o1 := k7.cell o1 (fun f => f)
        replace o2 := k7.cell o2 (fun f => f)
        replace o3 := k7.cell o3 (fun f => f)
        replace o4 := k7.cell o4 (fun f => f)
        replace o5 := k7.cell o5 (fun f => f)
        replace o6 := k7.cell o6 (fun f => f)
        replace o7 := k7.cell o7 (fun f => f)
        replace hb := (k7.block b BL (fun f => f)).trans hb
        replace hsn := (k7.block _ (Array.getElem?_eq_some_iff.1 hsn).1 (fun f => f)).trans hsn
        replace BL := (Array.getElem?_eq_some_iff.1 hb).1
        have K7 := Lib.hid (keptFF K6.out k7)
        clear k7
        have SE := seen0 hsn
        unfold kV at SE
        go_wp2_with fail
        refine (E2.out _).mono ?_
        rw [decide_eq_false (show ¬ 70 ≤ now by omega)]
        rintro r w8 ⟨rfl, k8⟩
        have K8 := Lib.hid (keptFF K7.out k8)
        clear k8 SE
        go_wp2
        go_roundg 0
        case measure => omega
        case rel => exact .inr ⟨rfl, rfl, by go_num, K8.out⟩
    · have KF := Lib.hid kw
      clear kw
      go_wp2
      go_ret
      exact ⟨rfl, KF.out⟩
end Go.Proofs.Ytibakmchgppndaa
