/- The chapter's example: at every call it returns true. -/
import Derived.Test.YtibakmchgppndaaFive
namespace Go.Proofs.Ytibakmchgppndaa
open Go.RowKit Go.MapKept Go.Instr Go.ChangeMaps

set_option maxHeartbeats 8000000 in
set_option maxRecDepth 100000 in
theorem lives_any (w : World) : Calls Try.prog 7 #[] w fun e w' => e = .returned (.bool true) ∧ Below w.heap.size w w' := by
  go_enter Try.func7, Try.ntmps7
  go_wp2_with fail
  refine (new_any w).mono ?_
  rintro e w1 ⟨rfl, k1, hp1, hb1⟩
  obtain ⟨p, hp⟩ : ∃ p, w.heap.size + 1 = p := ⟨_, rfl⟩
  obtain ⟨b, hb⟩ : ∃ b, w.heap.size = b := ⟨_, rfl⟩
  rw [hp, hb] at hp1
  rw [hb] at hb1
  rw [hp]
  have K1 := Lib.hid k1; have P1 := Lib.hid hp1; have B1 := Lib.hid hb1; have BE := Lib.hid hb
  clear k1 hp hb hp1 hb1
  go_wp2
  obtain ⟨W, hW⟩ : ∃ W, (w1.alloc (.cells #[.int .i64 3, .int .i64 1, .int .i64 0, .string ⟨#[97]⟩, .string ⟨#[104]⟩, .int .i64 10, .int .i64 0, .string ⟨#[]⟩] 37)).alloc (.cells #[.int .i64 3, .int .i64 1, .int .i64 0, .string ⟨#[97]⟩, .string ⟨#[104]⟩, .int .i64 10, .int .i64 0, .string ⟨#[111, 116, 104, 101, 114]⟩] 37) = W := ⟨_, rfl⟩
  obtain ⟨ns, hns⟩ : ∃ ns, w1.heap.size = ns := ⟨_, rfl⟩
  obtain ⟨nt, hnt⟩ : ∃ nt, ns + 1 = nt := ⟨_, rfl⟩
  have kA : Kept (fun _ => False) w1 (w1.alloc (.cells #[.int .i64 3, .int .i64 1, .int .i64 0, .string ⟨#[97]⟩, .string ⟨#[104]⟩, .int .i64 10, .int .i64 0, .string ⟨#[]⟩] 37)) := (Kept.refl _ w1).alloc _
  have kB : Kept (fun _ => False) (w1.alloc (.cells #[.int .i64 3, .int .i64 1, .int .i64 0, .string ⟨#[97]⟩, .string ⟨#[104]⟩, .int .i64 10, .int .i64 0, .string ⟨#[]⟩] 37)) W := by rw [← hW]; exact (Kept.refl _ _).alloc _
  have hs : CellsAt W ns ⟨#[]⟩ := by
    have h : CellsAt (w1.alloc (.cells #[.int .i64 3, .int .i64 1, .int .i64 0, .string ⟨#[97]⟩, .string ⟨#[104]⟩, .int .i64 10, .int .i64 0, .string ⟨#[]⟩] 37)) w1.heap.size ⟨#[]⟩ := CellsAt.new
    rw [hns] at h
    exact h.keptF kB
  have ht : CellsAt W nt ⟨#[111, 116, 104, 101, 114]⟩ := by
    have h : CellsAt ((w1.alloc (.cells #[.int .i64 3, .int .i64 1, .int .i64 0, .string ⟨#[97]⟩, .string ⟨#[104]⟩, .int .i64 10, .int .i64 0, .string ⟨#[]⟩] 37)).alloc (.cells #[.int .i64 3, .int .i64 1, .int .i64 0, .string ⟨#[97]⟩, .string ⟨#[104]⟩, .int .i64 10, .int .i64 0, .string ⟨#[111, 116, 104, 101, 114]⟩] 37)) (w1.alloc (.cells #[.int .i64 3, .int .i64 1, .int .i64 0, .string ⟨#[97]⟩, .string ⟨#[104]⟩, .int .i64 10, .int .i64 0, .string ⟨#[]⟩] 37)).heap.size ⟨#[111, 116, 104, 101, 114]⟩ := CellsAt.new
    rw [hW] at h
    have e : (w1.alloc (.cells #[.int .i64 3, .int .i64 1, .int .i64 0, .string ⟨#[97]⟩, .string ⟨#[104]⟩, .int .i64 10, .int .i64 0, .string ⟨#[]⟩] 37)).heap.size = nt := by rw [← hnt, ← hns]; simp
    rwa [e] at h
  have hp := (keptFF kA kB).cell P1.out (fun f => f)
  have hb := ((keptFF kA kB).block b (Array.getElem?_eq_some_iff.1 B1.out).1 (fun f => f)).trans B1.out
  have KW := Lib.hid (keptFF K1.out (keptFF kA kB))
  rw [hW, hns, hnt]
  clear hW hns hnt kA kB
  refine (fun (h : ∀ ops : Array Oper, ops = ops5 → (Code.region 5 ops true).wp Try.prog _ _ _) => h _ (by kernel_rfl)) ?_
  rintro ops rfl
  refine region5 (p := p) (b := b) (ns := ns) (nt := nt) (w0 := W) (fun _ _ _ _ _ h => h) ?_ _ _ _ _ _ _ _ _ _ _ _ _ _ _ _ _ _ _ _ _ _ _ _ _ _ _ _ _ _ _ _ _ _ _ _ _ _ _ _ _ _ _ _ _ _ _ _ _ _ _ _ _ _ _ _ _ _ _ _ _ _ _ _ _ _ _ _ _ _ hp hb hs ht
  clear hp hb hs ht
  intro x0 x8 x9 x10 x11 x12 x13 x16 x20 x24 x28 x30 x31 x32 x33 x34 x35 x36 x37 x38 x39 x40 x41 x42 x43 x44 x45 x46 x47 x48 x49 x50 x51 x52 x53 x54 x55 x56 x57 x58 x59 x60 x61 x62 x63 x64 x65 x66 x67 x68 x69 x70 x71 w5 hp hb hs hk
  have K5 := Lib.hid (KW.out.trans hk (fun _ _ f => f.elim) (fun _ _ h => h) : Kept (fun k => k = b) w w5)
  have HM5 := Lib.hid (show ModAt w5 p b ⟨#[]⟩ from ⟨hp, hb⟩)
  have HS5 := Lib.hid hs
  clear hp hb hs hk
  go_wp2_with fail
  refine (find_any HM5.out).mono ?_
  rintro e w6 ⟨k6, gI, cI, rfl, hgI⟩
  have hs6 := HS5.out.keptF k6
  have HM6 := Lib.hid (show ModAt w6.drew p b ⟨#[]⟩ from HM5.out.kept k6.drew)
  have HG := Lib.hid (show w6.drew.cell? ⟨gI, 0, none⟩ = some (.int .i64 3) from hgI)
  have KB := Lib.hid ((K5.out.trans k6 (fun _ _ h => h) (fun _ _ f => f.elim) : Kept (fun k => k = b) w w6).drew)
  clear k6 hgI
  go_wp2
  refine wp_region_held_drew (S := (fun w' => CellsAt w' ns ⟨#[]⟩)) (by kernel_rfl) ?_ (fun hHeld => ?_)
  · exact hs6
  refine wpAnyH_take (i := 0) (v := ?_) opAt0 (by kernel_rfl) (by kernel_rfl) (by kernel_rfl) (fun _ _ _ h => h) (Or.inl ⟨by rfl, ?_⟩) hHeld ?_
  case refine_2 => (intro w hSw; (try dsimp only at hSw); go_simp; all_goals (with_reducible rfl))
  (try simp only [Act.put]); (try simp only [List.setIfInBounds_toArray]); (try simp only [List.set_cons_succ]); (try simp only [List.set_cons_zero])
  refine wpAnyH_take (i := 1) (v := ?_) opAt1 (by kernel_rfl) (by kernel_rfl) (by kernel_rfl) (fun _ _ _ h => h) (Or.inl ⟨by rfl, ?_⟩) hHeld ?_
  case refine_2 => (intro w hSw; (try dsimp only at hSw); go_simp; all_goals (with_reducible rfl))
  (try simp only [Act.put]); (try simp only [List.setIfInBounds_toArray]); (try simp only [List.set_cons_succ]); (try simp only [List.set_cons_zero])
  refine wpAnyH_take (i := 2) (v := ?_) opAt2 (by kernel_rfl) (by kernel_rfl) (by kernel_rfl) (fun _ _ _ h => h) (Or.inl ⟨by rfl, ?_⟩) hHeld ?_
  case refine_2 => (intro w hSw; (try dsimp only at hSw); go_simp; all_goals (with_reducible rfl))
  (try simp only [Act.put]); (try simp only [List.setIfInBounds_toArray]); (try simp only [List.set_cons_succ]); (try simp only [List.set_cons_zero])
  refine wpAnyH_take (i := 3) (v := ?_) opAt3 (by kernel_rfl) (by kernel_rfl) (by kernel_rfl) (fun _ _ _ h => h) (Or.inl ⟨by rfl, ?_⟩) hHeld ?_
  case refine_2 => (intro w hSw; (try dsimp only at hSw); go_simp; all_goals (with_reducible rfl))
  (try simp only [Act.put]); (try simp only [List.setIfInBounds_toArray]); (try simp only [List.set_cons_succ]); (try simp only [List.set_cons_zero])
  refine wpAnyH_take (i := 4) (v := ?_) opAt4 (by kernel_rfl) (by kernel_rfl) (by kernel_rfl) (fun _ _ _ h => h) (Or.inl ⟨by rfl, ?_⟩) hHeld ?_
  case refine_2 => (intro w hSw; (try dsimp only at hSw); go_simp; all_goals (with_reducible rfl))
  (try simp only [Act.put]); (try simp only [List.setIfInBounds_toArray]); (try simp only [List.set_cons_succ]); (try simp only [List.set_cons_zero])
  refine wpAnyH_take (i := 5) (v := ?_) opAt5 (by kernel_rfl) (by kernel_rfl) (by kernel_rfl) (fun _ _ _ h => h) (Or.inl ⟨by rfl, ?_⟩) hHeld ?_
  case refine_2 => (intro w hSw; (try dsimp only at hSw); go_simp; all_goals (with_reducible rfl))
  (try simp only [Act.put]); (try simp only [List.setIfInBounds_toArray]); (try simp only [List.set_cons_succ]); (try simp only [List.set_cons_zero])
  refine wpAnyH_take (i := 6) (v := ?_) opAt6 (by kernel_rfl) (by kernel_rfl) (by kernel_rfl) (fun _ _ _ h => h) (Or.inl ⟨by rfl, ?_⟩) hHeld ?_
  case refine_2 => (intro w hSw; (try dsimp only at hSw); go_simp; all_goals (with_reducible rfl))
  (try simp only [Act.put]); (try simp only [List.setIfInBounds_toArray]); (try simp only [List.set_cons_succ]); (try simp only [List.set_cons_zero])
  refine wpAnyH_take (i := 7) (v := ?_) opAt7 (by kernel_rfl) (by kernel_rfl) (by kernel_rfl) (fun _ _ _ h => h) (Or.inl ⟨by rfl, ?_⟩) hHeld ?_
  case refine_2 => (intro w hSw; (try dsimp only at hSw); go_simp; all_goals (with_reducible rfl))
  (try simp only [Act.put]); (try simp only [List.setIfInBounds_toArray]); (try simp only [List.set_cons_succ]); (try simp only [List.set_cons_zero])
  refine wpAnyH_take (i := 8) (v := ?_) opAt8 (by kernel_rfl) (by kernel_rfl) (by kernel_rfl) (fun _ _ _ h => h) (Or.inl ⟨by rfl, ?_⟩) hHeld ?_
  case refine_2 => (intro w hSw; (try dsimp only at hSw); go_simp; all_goals (with_reducible rfl))
  (try simp only [Act.put]); (try simp only [List.setIfInBounds_toArray]); (try simp only [List.set_cons_succ]); (try simp only [List.set_cons_zero])
  refine wpAnyH_take (i := 9) (v := ?_) opAt9 (by kernel_rfl) (by kernel_rfl) (by kernel_rfl) (fun _ _ _ h => h) (Or.inl ⟨by rfl, ?_⟩) hHeld ?_
  case refine_2 => (intro w hSw; (try dsimp only at hSw); go_simp; all_goals (with_reducible rfl))
  (try simp only [Act.put]); (try simp only [List.setIfInBounds_toArray]); (try simp only [List.set_cons_succ]); (try simp only [List.set_cons_zero])
  refine wpAnyH_take (i := 10) (v := ?_) opAt10 (by kernel_rfl) (by kernel_rfl) (by kernel_rfl) (fun _ _ _ h => h) (Or.inl ⟨by rfl, ?_⟩) hHeld ?_
  case refine_2 => (intro w hSw; (try dsimp only at hSw); go_simp; all_goals (with_reducible rfl))
  (try simp only [Act.put]); (try simp only [List.setIfInBounds_toArray]); (try simp only [List.set_cons_succ]); (try simp only [List.set_cons_zero])
  refine wpAnyH_take (i := 11) (v := ?_) opAt11 (by kernel_rfl) (by kernel_rfl) (by kernel_rfl) (fun _ _ _ h => h) (Or.inl ⟨by rfl, ?_⟩) hHeld ?_
  case refine_2 => (intro w hSw; (try dsimp only at hSw); go_simp; all_goals (with_reducible rfl))
  (try simp only [Act.put]); (try simp only [List.setIfInBounds_toArray]); (try simp only [List.set_cons_succ]); (try simp only [List.set_cons_zero])
  refine wpAnyH_take (i := 12) (v := ?_) opAt12 (by kernel_rfl) (by kernel_rfl) (by kernel_rfl) (fun _ _ _ h => h) (Or.inl ⟨by rfl, ?_⟩) hHeld ?_
  case refine_2 => (intro w hSw; (try dsimp only at hSw); go_simp; all_goals (with_reducible rfl))
  (try simp only [Act.put]); (try simp only [List.setIfInBounds_toArray]); (try simp only [List.set_cons_succ]); (try simp only [List.set_cons_zero])
  refine wpAnyH_take (i := 13) (v := ?_) opAt13 (by kernel_rfl) (by kernel_rfl) (by kernel_rfl) (fun _ _ _ h => h) (Or.inl ⟨by rfl, ?_⟩) hHeld ?_
  case refine_2 => (intro w hSw; (try dsimp only at hSw); go_simp; all_goals (with_reducible rfl))
  (try simp only [Act.put]); (try simp only [List.setIfInBounds_toArray]); (try simp only [List.set_cons_succ]); (try simp only [List.set_cons_zero])
  refine wpAnyH_take (i := 14) (v := ?_) opAt14 (by kernel_rfl) (by kernel_rfl) (by kernel_rfl) (fun _ _ _ h => h) (Or.inl ⟨by rfl, ?_⟩) hHeld ?_
  case refine_2 => (intro w hSw; (try dsimp only at hSw); go_simp; all_goals (with_reducible rfl))
  (try simp only [Act.put]); (try simp only [List.setIfInBounds_toArray]); (try simp only [List.set_cons_succ]); (try simp only [List.set_cons_zero])
  refine wpAnyH_take (i := 15) (v := ?_) opAt15 (by kernel_rfl) (by kernel_rfl) (by kernel_rfl) (fun _ _ _ h => h) (Or.inl ⟨by rfl, ?_⟩) hHeld ?_
  case refine_2 => (intro w hSw; (try dsimp only at hSw); go_simp; all_goals (with_reducible rfl))
  (try simp only [Act.put]); (try simp only [List.setIfInBounds_toArray]); (try simp only [List.set_cons_succ]); (try simp only [List.set_cons_zero])
  refine wpAnyH_take (i := 17) (v := ?_) opAt17 (by kernel_rfl) (by kernel_rfl) (by kernel_rfl) (fun _ _ _ h => h) (Or.inl ⟨by rfl, ?_⟩) hHeld ?_
  case refine_2 => (intro w hSw; have q0 := hSw 0 _ rfl; have q1 := hSw 1 _ rfl; have q2 := hSw 2 _ rfl; have q3 := hSw 3 _ rfl; have q4 := hSw 4 _ rfl; have q5 := hSw 5 _ rfl; have q6 := hSw 6 _ rfl; have q7 := hSw 7 _ rfl; clear hSw; go_simp; all_goals (with_reducible rfl))
  (try simp only [Act.put]); (try simp only [List.setIfInBounds_toArray]); (try simp only [List.set_cons_succ]); (try simp only [List.set_cons_zero])
  refine wpAnyH_ready (rs := [16, 18]) (by kernel_rfl) (by simp) ?_
  refine AllReadyH.cons opAt16 (fun K hK => ?_) ?_
  · go_simp
    go_at_call 10; refine (spans_live 69 (by omega) (by omega) HM6.out).mono ?_; rintro e w8 ⟨k8, v, rfl, ho⟩; obtain ⟨g16, cap16, rfl, _, _, c16⟩ := row_one ho; clear ho; dsimp only
    refine hK.out _ _ ?_ (fun hHeld => ?_)
    · exact hHeld.keptF k8
    clear hK K
    (try simp only [Act.put]); (try simp only [List.setIfInBounds_toArray]); (try simp only [List.set_cons_succ]); (try simp only [List.set_cons_zero])
    have K8 := Lib.hid k8
    refine wpAnyH_ready (rs := [18]) (by kernel_rfl) (by simp) ?_
    refine AllReadyH.cons opAt18 (fun K hK => ?_) AllReadyH.nil
    go_simp
    have kz := ((Kept.refl (fun _ => False) w8).alloc (.cells #[.int .i64 3, .int .i64 1, .int .i64 0, .string ⟨#[97]⟩, .string ⟨#[104]⟩, .int .i64 10, .int .i64 0, .string ⟨#[]⟩] 37))
    refine hK.out _ _ ?_ (fun hHeld => ?_)
    · exact hHeld.keptF kz
    clear hK K
    (try simp only [Act.put]); (try simp only [List.setIfInBounds_toArray]); (try simp only [List.set_cons_succ]); (try simp only [List.set_cons_zero])
    refine wpAnyH_ready (rs := [19]) (by kernel_rfl) (by simp) ?_
    refine AllReadyH.cons opAt19 (fun K hK => ?_) AllReadyH.nil
    go_simp
    go_at_call 11; refine (samespans_one (CellsAt.keptF (g := g16) c16 kz) CellsAt.new).mono ?_; rintro e w9 ⟨rfl, k9⟩; have K9 := Lib.hid (keptFF (K8.out.alloc _) k9); dsimp only
    refine hK.out _ _ ?_ (fun hHeld => ?_)
    · exact hHeld.keptF k9
    clear hK K
    (try simp only [Act.put]); (try simp only [List.setIfInBounds_toArray]); (try simp only [List.set_cons_succ]); (try simp only [List.set_cons_zero])
    refine wpAnyH_take (i := 20) (v := ?_) opAt20 (by kernel_rfl) (by kernel_rfl) (by kernel_rfl) (fun _ _ _ h => h) (Or.inl ⟨by rfl, ?_⟩) hHeld ?_
    case refine_2 => (intro w hSw; (try dsimp only at hSw); go_simp; all_goals (with_reducible rfl))
    (try simp only [Act.put]); (try simp only [List.setIfInBounds_toArray]); (try simp only [List.set_cons_succ]); (try simp only [List.set_cons_zero])
    refine wpAnyH_take (i := 21) (v := ?_) opAt21 (by kernel_rfl) (by kernel_rfl) (by kernel_rfl) (fun _ _ _ h => h) (Or.inl ⟨by rfl, ?_⟩) hHeld ?_
    case refine_2 => (intro w hSw; (try dsimp only at hSw); go_simp; all_goals (with_reducible rfl))
    (try simp only [Act.put]); (try simp only [List.setIfInBounds_toArray]); (try simp only [List.set_cons_succ]); (try simp only [List.set_cons_zero])
    refine wpAnyH_take (i := 22) (v := ?_) opAt22 (by kernel_rfl) (by kernel_rfl) (by kernel_rfl) (fun _ _ _ h => h) (Or.inl ⟨by rfl, ?_⟩) hHeld ?_
    case refine_2 => (intro w hSw; (try dsimp only at hSw); go_simp; all_goals (with_reducible rfl))
    (try simp only [Act.put]); (try simp only [List.setIfInBounds_toArray]); (try simp only [List.set_cons_succ]); (try simp only [List.set_cons_zero])
    refine wpAnyH_ready (rs := [23]) (by kernel_rfl) (by simp) ?_
    refine AllReadyH.cons opAt23 (fun K hK => ?_) AllReadyH.nil
    go_simp
    go_at_call 10; refine (spans_gone 70 (by omega) (by omega) (HM6.out.kept K9.out)).mono ?_; rintro e w10 ⟨k10, rfl⟩; have K10 := Lib.hid (keptFF K9.out k10); dsimp only
    refine hK.out _ _ ?_ (fun hHeld => ?_)
    · exact hHeld.keptF k10
    clear hK K
    (try simp only [Act.put]); (try simp only [List.setIfInBounds_toArray]); (try simp only [List.set_cons_succ]); (try simp only [List.set_cons_zero])
    refine wpAnyH_take (i := 24) (v := ?_) opAt24 (by kernel_rfl) (by kernel_rfl) (by kernel_rfl) (fun _ _ _ h => h) (Or.inl ⟨by rfl, ?_⟩) hHeld ?_
    case refine_2 => (intro w hSw; (try dsimp only at hSw); go_simp; all_goals (with_reducible rfl))
    (try simp only [Act.put]); (try simp only [List.setIfInBounds_toArray]); (try simp only [List.set_cons_succ]); (try simp only [List.set_cons_zero])
    refine wpAnyH_take (i := 25) (v := ?_) opAt25 (by kernel_rfl) (by kernel_rfl) (by kernel_rfl) (fun _ _ _ h => h) (Or.inl ⟨by rfl, ?_⟩) hHeld ?_
    case refine_2 => (intro w hSw; (try dsimp only at hSw); go_simp; all_goals (with_reducible rfl))
    (try simp only [Act.put]); (try simp only [List.setIfInBounds_toArray]); (try simp only [List.set_cons_succ]); (try simp only [List.set_cons_zero])
    refine wpAnyH_take (i := 26) (v := ?_) opAt26 (by kernel_rfl) (by kernel_rfl) (by kernel_rfl) (fun _ _ _ h => h) (Or.inl ⟨by rfl, ?_⟩) hHeld ?_
    case refine_2 => (intro w hSw; (try dsimp only at hSw); go_simp; all_goals (with_reducible rfl))
    (try simp only [Act.put]); (try simp only [List.setIfInBounds_toArray]); (try simp only [List.set_cons_succ]); (try simp only [List.set_cons_zero])
    refine wpAnyH_take (i := 27) (v := ?_) opAt27 (by kernel_rfl) (by kernel_rfl) (by kernel_rfl) (fun _ _ _ h => h) (Or.inl ⟨by rfl, ?_⟩) hHeld ?_
    case refine_2 => (intro w hSw; (try dsimp only at hSw); go_simp; all_goals (with_reducible rfl))
    (try simp only [Act.put]); (try simp only [List.setIfInBounds_toArray]); (try simp only [List.set_cons_succ]); (try simp only [List.set_cons_zero])
    refine wpAnyH_take (i := 28) (v := ?_) opAt28 (by kernel_rfl) (by kernel_rfl) (by kernel_rfl) (fun _ _ _ h => h) (Or.inl ⟨by rfl, ?_⟩) hHeld ?_
    case refine_2 => (intro w hSw; (try dsimp only at hSw); go_simp; all_goals (with_reducible rfl))
    (try simp only [Act.put]); (try simp only [List.setIfInBounds_toArray]); (try simp only [List.set_cons_succ]); (try simp only [List.set_cons_zero])
    refine wpAnyH_take (i := 29) (v := ?_) opAt29 (by kernel_rfl) (by kernel_rfl) (by kernel_rfl) (fun _ _ _ h => h) (Or.inl ⟨by rfl, ?_⟩) hHeld ?_
    case refine_2 => (intro w hSw; (try dsimp only at hSw); go_simp; all_goals (with_reducible rfl))
    (try simp only [Act.put]); (try simp only [List.setIfInBounds_toArray]); (try simp only [List.set_cons_succ]); (try simp only [List.set_cons_zero])
    refine wpAnyH_take (i := 30) (v := ?_) opAt30 (by kernel_rfl) (by kernel_rfl) (by kernel_rfl) (fun _ _ _ h => h) (Or.inl ⟨by rfl, ?_⟩) hHeld ?_
    case refine_2 => (intro w hSw; (try dsimp only at hSw); go_simp; all_goals (with_reducible rfl))
    (try simp only [Act.put]); (try simp only [List.setIfInBounds_toArray]); (try simp only [List.set_cons_succ]); (try simp only [List.set_cons_zero])
    refine wpAnyH_take (i := 31) (v := ?_) opAt31 (by kernel_rfl) (by kernel_rfl) (by kernel_rfl) (fun _ _ _ h => h) (Or.inl ⟨by rfl, ?_⟩) hHeld ?_
    case refine_2 => (intro w hSw; (try dsimp only at hSw); go_simp; all_goals (with_reducible rfl))
    (try simp only [Act.put]); (try simp only [List.setIfInBounds_toArray]); (try simp only [List.set_cons_succ]); (try simp only [List.set_cons_zero])
    refine wpAnyH_take (i := 32) (v := ?_) opAt32 (by kernel_rfl) (by kernel_rfl) (by kernel_rfl) (fun _ _ _ h => h) (Or.inl ⟨by rfl, ?_⟩) hHeld ?_
    case refine_2 => (intro w hSw; (try dsimp only at hSw); go_simp; all_goals (with_reducible rfl))
    (try simp only [Act.put]); (try simp only [List.setIfInBounds_toArray]); (try simp only [List.set_cons_succ]); (try simp only [List.set_cons_zero])
    refine wpAnyH_ready (rs := [33]) (by kernel_rfl) (by simp) ?_
    refine AllReadyH.cons opAt33 (fun K hK => ?_) AllReadyH.nil
    go_simp
    have K11 := Lib.hid (K10.out.alloc (.cells #[.int .i64 3] 3))
    refine hK.out _ _ ?_ (fun hHeld => ?_)
    · exact hHeld.keptF ((Kept.refl (fun _ => False) w10).alloc _)
    clear hK K
    (try simp only [Act.put]); (try simp only [List.setIfInBounds_toArray]); (try simp only [List.set_cons_succ]); (try simp only [List.set_cons_zero])
    refine wpAnyH_ready (rs := [34]) (by kernel_rfl) (by simp) ?_
    refine AllReadyH.cons opAt34 (fun K hK => ?_) AllReadyH.nil
    go_simp
    go_at_call 25; refine (sameints_one (K11.out.cell HG.out (fun f => f)) (by simp)).mono ?_; rintro e w12 ⟨rfl, k12⟩; have K12 := Lib.hid (keptFF K11.out k12); dsimp only
    refine hK.out _ _ ?_ (fun hHeld => ?_)
    · exact hHeld.keptF k12
    clear hK K
    (try simp only [Act.put]); (try simp only [List.setIfInBounds_toArray]); (try simp only [List.set_cons_succ]); (try simp only [List.set_cons_zero])
    refine wpAnyH_take (i := 35) (v := ?_) opAt35 (by kernel_rfl) (by kernel_rfl) (by kernel_rfl) (fun _ _ _ h => h) (Or.inl ⟨by rfl, ?_⟩) hHeld ?_
    case refine_2 => (intro w hSw; (try dsimp only at hSw); go_simp; all_goals (with_reducible rfl))
    (try simp only [Act.put]); (try simp only [List.setIfInBounds_toArray]); (try simp only [List.set_cons_succ]); (try simp only [List.set_cons_zero])
    refine wpAnyH_take (i := 36) (v := ?_) opAt36 (by kernel_rfl) (by kernel_rfl) (by kernel_rfl) (fun _ _ _ h => h) (Or.inl ⟨by rfl, ?_⟩) hHeld ?_
    case refine_2 => (intro w hSw; (try dsimp only at hSw); go_simp; all_goals (with_reducible rfl))
    (try simp only [Act.put]); (try simp only [List.setIfInBounds_toArray]); (try simp only [List.set_cons_succ]); (try simp only [List.set_cons_zero])
    refine wpAnyH_done (by kernel_rfl) ?_ _
    go_wp2
    go_ret
    exact ⟨rfl, (KB.out.trans K12.out (fun _ _ h => h) (fun _ _ f => f.elim) : Kept (fun k => k = b) w w12).below (fun i hi h => by have := BE.out; omega)⟩
  refine AllReadyH.cons opAt18 (fun K hK => ?_) AllReadyH.nil
  · go_simp
    skip
    refine hK.out _ _ ?_ (fun hHeld => ?_)
    · exact hHeld.keptF ((Kept.refl (fun _ => False) w6.drew).alloc (.cells #[.int .i64 3, .int .i64 1, .int .i64 0, .string ⟨#[97]⟩, .string ⟨#[104]⟩, .int .i64 10, .int .i64 0, .string ⟨#[]⟩] 37))
    clear hK K
    (try simp only [Act.put]); (try simp only [List.setIfInBounds_toArray]); (try simp only [List.set_cons_succ]); (try simp only [List.set_cons_zero])
    have kz := ((Kept.refl (fun _ => False) w6.drew).alloc (.cells #[.int .i64 3, .int .i64 1, .int .i64 0, .string ⟨#[97]⟩, .string ⟨#[104]⟩, .int .i64 10, .int .i64 0, .string ⟨#[]⟩] 37))
    refine wpAnyH_ready (rs := [16]) (by kernel_rfl) (by simp) ?_
    refine AllReadyH.cons opAt16 (fun K hK => ?_) AllReadyH.nil
    go_simp
    go_at_call 10; refine (spans_live 69 (by omega) (by omega) (HM6.out.kept kz)).mono ?_; rintro e w8 ⟨k8, v, rfl, ho⟩; obtain ⟨g16, cap16, rfl, _, _, c16⟩ := row_one ho; clear ho; dsimp only
    refine hK.out _ _ ?_ (fun hHeld => ?_)
    · exact hHeld.keptF k8
    clear hK K
    (try simp only [Act.put]); (try simp only [List.setIfInBounds_toArray]); (try simp only [List.set_cons_succ]); (try simp only [List.set_cons_zero])
    have K8 := Lib.hid (keptFF kz k8)
    refine wpAnyH_ready (rs := [19]) (by kernel_rfl) (by simp) ?_
    refine AllReadyH.cons opAt19 (fun K hK => ?_) AllReadyH.nil
    go_simp
    go_at_call 11; refine (samespans_one c16 (CellsAt.keptF CellsAt.new k8)).mono ?_; rintro e w9 ⟨rfl, k9⟩; have K9 := Lib.hid (keptFF K8.out k9); dsimp only
    refine hK.out _ _ ?_ (fun hHeld => ?_)
    · exact hHeld.keptF k9
    clear hK K
    (try simp only [Act.put]); (try simp only [List.setIfInBounds_toArray]); (try simp only [List.set_cons_succ]); (try simp only [List.set_cons_zero])
    refine wpAnyH_take (i := 20) (v := ?_) opAt20 (by kernel_rfl) (by kernel_rfl) (by kernel_rfl) (fun _ _ _ h => h) (Or.inl ⟨by rfl, ?_⟩) hHeld ?_
    case refine_2 => (intro w hSw; (try dsimp only at hSw); go_simp; all_goals (with_reducible rfl))
    (try simp only [Act.put]); (try simp only [List.setIfInBounds_toArray]); (try simp only [List.set_cons_succ]); (try simp only [List.set_cons_zero])
    refine wpAnyH_take (i := 21) (v := ?_) opAt21 (by kernel_rfl) (by kernel_rfl) (by kernel_rfl) (fun _ _ _ h => h) (Or.inl ⟨by rfl, ?_⟩) hHeld ?_
    case refine_2 => (intro w hSw; (try dsimp only at hSw); go_simp; all_goals (with_reducible rfl))
    (try simp only [Act.put]); (try simp only [List.setIfInBounds_toArray]); (try simp only [List.set_cons_succ]); (try simp only [List.set_cons_zero])
    refine wpAnyH_take (i := 22) (v := ?_) opAt22 (by kernel_rfl) (by kernel_rfl) (by kernel_rfl) (fun _ _ _ h => h) (Or.inl ⟨by rfl, ?_⟩) hHeld ?_
    case refine_2 => (intro w hSw; (try dsimp only at hSw); go_simp; all_goals (with_reducible rfl))
    (try simp only [Act.put]); (try simp only [List.setIfInBounds_toArray]); (try simp only [List.set_cons_succ]); (try simp only [List.set_cons_zero])
    refine wpAnyH_ready (rs := [23]) (by kernel_rfl) (by simp) ?_
    refine AllReadyH.cons opAt23 (fun K hK => ?_) AllReadyH.nil
    go_simp
    go_at_call 10; refine (spans_gone 70 (by omega) (by omega) (HM6.out.kept K9.out)).mono ?_; rintro e w10 ⟨k10, rfl⟩; have K10 := Lib.hid (keptFF K9.out k10); dsimp only
    refine hK.out _ _ ?_ (fun hHeld => ?_)
    · exact hHeld.keptF k10
    clear hK K
    (try simp only [Act.put]); (try simp only [List.setIfInBounds_toArray]); (try simp only [List.set_cons_succ]); (try simp only [List.set_cons_zero])
    refine wpAnyH_take (i := 24) (v := ?_) opAt24 (by kernel_rfl) (by kernel_rfl) (by kernel_rfl) (fun _ _ _ h => h) (Or.inl ⟨by rfl, ?_⟩) hHeld ?_
    case refine_2 => (intro w hSw; (try dsimp only at hSw); go_simp; all_goals (with_reducible rfl))
    (try simp only [Act.put]); (try simp only [List.setIfInBounds_toArray]); (try simp only [List.set_cons_succ]); (try simp only [List.set_cons_zero])
    refine wpAnyH_take (i := 25) (v := ?_) opAt25 (by kernel_rfl) (by kernel_rfl) (by kernel_rfl) (fun _ _ _ h => h) (Or.inl ⟨by rfl, ?_⟩) hHeld ?_
    case refine_2 => (intro w hSw; (try dsimp only at hSw); go_simp; all_goals (with_reducible rfl))
    (try simp only [Act.put]); (try simp only [List.setIfInBounds_toArray]); (try simp only [List.set_cons_succ]); (try simp only [List.set_cons_zero])
    refine wpAnyH_take (i := 26) (v := ?_) opAt26 (by kernel_rfl) (by kernel_rfl) (by kernel_rfl) (fun _ _ _ h => h) (Or.inl ⟨by rfl, ?_⟩) hHeld ?_
    case refine_2 => (intro w hSw; (try dsimp only at hSw); go_simp; all_goals (with_reducible rfl))
    (try simp only [Act.put]); (try simp only [List.setIfInBounds_toArray]); (try simp only [List.set_cons_succ]); (try simp only [List.set_cons_zero])
    refine wpAnyH_take (i := 27) (v := ?_) opAt27 (by kernel_rfl) (by kernel_rfl) (by kernel_rfl) (fun _ _ _ h => h) (Or.inl ⟨by rfl, ?_⟩) hHeld ?_
    case refine_2 => (intro w hSw; (try dsimp only at hSw); go_simp; all_goals (with_reducible rfl))
    (try simp only [Act.put]); (try simp only [List.setIfInBounds_toArray]); (try simp only [List.set_cons_succ]); (try simp only [List.set_cons_zero])
    refine wpAnyH_take (i := 28) (v := ?_) opAt28 (by kernel_rfl) (by kernel_rfl) (by kernel_rfl) (fun _ _ _ h => h) (Or.inl ⟨by rfl, ?_⟩) hHeld ?_
    case refine_2 => (intro w hSw; (try dsimp only at hSw); go_simp; all_goals (with_reducible rfl))
    (try simp only [Act.put]); (try simp only [List.setIfInBounds_toArray]); (try simp only [List.set_cons_succ]); (try simp only [List.set_cons_zero])
    refine wpAnyH_take (i := 29) (v := ?_) opAt29 (by kernel_rfl) (by kernel_rfl) (by kernel_rfl) (fun _ _ _ h => h) (Or.inl ⟨by rfl, ?_⟩) hHeld ?_
    case refine_2 => (intro w hSw; (try dsimp only at hSw); go_simp; all_goals (with_reducible rfl))
    (try simp only [Act.put]); (try simp only [List.setIfInBounds_toArray]); (try simp only [List.set_cons_succ]); (try simp only [List.set_cons_zero])
    refine wpAnyH_take (i := 30) (v := ?_) opAt30 (by kernel_rfl) (by kernel_rfl) (by kernel_rfl) (fun _ _ _ h => h) (Or.inl ⟨by rfl, ?_⟩) hHeld ?_
    case refine_2 => (intro w hSw; (try dsimp only at hSw); go_simp; all_goals (with_reducible rfl))
    (try simp only [Act.put]); (try simp only [List.setIfInBounds_toArray]); (try simp only [List.set_cons_succ]); (try simp only [List.set_cons_zero])
    refine wpAnyH_take (i := 31) (v := ?_) opAt31 (by kernel_rfl) (by kernel_rfl) (by kernel_rfl) (fun _ _ _ h => h) (Or.inl ⟨by rfl, ?_⟩) hHeld ?_
    case refine_2 => (intro w hSw; (try dsimp only at hSw); go_simp; all_goals (with_reducible rfl))
    (try simp only [Act.put]); (try simp only [List.setIfInBounds_toArray]); (try simp only [List.set_cons_succ]); (try simp only [List.set_cons_zero])
    refine wpAnyH_take (i := 32) (v := ?_) opAt32 (by kernel_rfl) (by kernel_rfl) (by kernel_rfl) (fun _ _ _ h => h) (Or.inl ⟨by rfl, ?_⟩) hHeld ?_
    case refine_2 => (intro w hSw; (try dsimp only at hSw); go_simp; all_goals (with_reducible rfl))
    (try simp only [Act.put]); (try simp only [List.setIfInBounds_toArray]); (try simp only [List.set_cons_succ]); (try simp only [List.set_cons_zero])
    refine wpAnyH_ready (rs := [33]) (by kernel_rfl) (by simp) ?_
    refine AllReadyH.cons opAt33 (fun K hK => ?_) AllReadyH.nil
    go_simp
    have K11 := Lib.hid (K10.out.alloc (.cells #[.int .i64 3] 3))
    refine hK.out _ _ ?_ (fun hHeld => ?_)
    · exact hHeld.keptF ((Kept.refl (fun _ => False) w10).alloc _)
    clear hK K
    (try simp only [Act.put]); (try simp only [List.setIfInBounds_toArray]); (try simp only [List.set_cons_succ]); (try simp only [List.set_cons_zero])
    refine wpAnyH_ready (rs := [34]) (by kernel_rfl) (by simp) ?_
    refine AllReadyH.cons opAt34 (fun K hK => ?_) AllReadyH.nil
    go_simp
    go_at_call 25; refine (sameints_one (K11.out.cell HG.out (fun f => f)) (by simp)).mono ?_; rintro e w12 ⟨rfl, k12⟩; have K12 := Lib.hid (keptFF K11.out k12); dsimp only
    refine hK.out _ _ ?_ (fun hHeld => ?_)
    · exact hHeld.keptF k12
    clear hK K
    (try simp only [Act.put]); (try simp only [List.setIfInBounds_toArray]); (try simp only [List.set_cons_succ]); (try simp only [List.set_cons_zero])
    refine wpAnyH_take (i := 35) (v := ?_) opAt35 (by kernel_rfl) (by kernel_rfl) (by kernel_rfl) (fun _ _ _ h => h) (Or.inl ⟨by rfl, ?_⟩) hHeld ?_
    case refine_2 => (intro w hSw; (try dsimp only at hSw); go_simp; all_goals (with_reducible rfl))
    (try simp only [Act.put]); (try simp only [List.setIfInBounds_toArray]); (try simp only [List.set_cons_succ]); (try simp only [List.set_cons_zero])
    refine wpAnyH_take (i := 36) (v := ?_) opAt36 (by kernel_rfl) (by kernel_rfl) (by kernel_rfl) (fun _ _ _ h => h) (Or.inl ⟨by rfl, ?_⟩) hHeld ?_
    case refine_2 => (intro w hSw; (try dsimp only at hSw); go_simp; all_goals (with_reducible rfl))
    (try simp only [Act.put]); (try simp only [List.setIfInBounds_toArray]); (try simp only [List.set_cons_succ]); (try simp only [List.set_cons_zero])
    refine wpAnyH_done (by kernel_rfl) ?_ _
    go_wp2
    go_ret
    exact ⟨rfl, (KB.out.trans K12.out (fun _ _ h => h) (fun _ _ f => f.elim) : Kept (fun k => k = b) w w12).below (fun i hi h => by have := BE.out; omega)⟩
end Go.Proofs.Ytibakmchgppndaa
