/- NetsPlaces: the walk where there is such a place, and no room; all cases. -/
import Derived.Test.YtgafedmabaeemaaPlacesB
namespace Go.Proofs.Ytgafedmabaeemaa
open Go.RowKit

set_option maxRecDepth 100000 in
set_option maxHeartbeats 16000000 in
theorem places_full (w : World) (v : Value) (A : List Act') (n : Nat) (m : Mail) (L : List Mail) (h : ReadsA w v A) (hl : A.length ≤ 9223372036854775807) (hall : ∀ y ∈ A, 0 ≤ y.kind ∧ y.kind < 256 ∧ y.m.d.size ≤ 9223372036854775807)
    (hg : greatB A = false) (hF : finL A = L) (hm : L[n]? = some m) (hle : L.length = 64) :
    Calls Try.prog 6 #[v, .int .i64 n] w fun e w' => e = .returned (.bool true) ∧ Below w.heap.size w w' := by
  have hB := Nat.le_refl w.heap.size
  have SZ := Lib.hid (fun y hy => (hall y hy).2.2 : ∀ y ∈ A, y.m.d.size ≤ 9223372036854775807)
  have KB := Lib.hid (fun y hy => ⟨(hall y hy).1, (hall y hy).2.1⟩ : ∀ y ∈ A, 0 ≤ y.kind ∧ y.kind < 256)
  clear hall
  have H := Lib.hid h
  obtain ⟨ao, cap, rfl, hx⟩ := h
  have HX := Lib.hid hx; clear hx
  have HF := Lib.hid hF; clear hF
  have HG := Lib.hid hg; clear hg
  have hn := lt_of_get hm
  have HM := Lib.hid hm; clear hm
  have LE := Lib.hid hle; clear hle
  have i1 : (0 : Int) ≤ (n : Int) := by omega
  have i2 : (n : Int) < (L.length : Int) := by omega
  have i3 : (L.length : Int) ≤ 64 := by have := LE.out; omega
  go_enter Try.func6, Try.ntmps6
  go_wp2_with fail
  refine (great_any _ _ A H.out hl SZ.out).mono ?_
  rintro e w1 ⟨rfl, rfl⟩
  rw [HG.out]
  go_wp2_with fail
  refine (new_any _).mono ?_
  rintro e w1 ⟨rfl, hN, hK⟩
  have N1 := Lib.hid hN
  have G1 := Lib.hid (Below.step (Below.refl _ _) hB hK (fun _ f => f.elim))
  clear hN hK
  have hS : ∀ k, k = w.heap.size → w.heap.size ≤ k := fun k e => by omega
  have HS := Lib.hid hS; clear hS
  go_wp2_with fail
  go_loopg [6] A.length (fun g t wr => ∃ k : Nat, k + g = A.length ∧ t = .int .i64 k ∧ NetOk wr w.heap.size (finL (A.take k)) ∧ Below w.heap.size w wr)
  case atStart => exact ⟨0, by omega, rfl, N1.out, G1.out⟩
  case round =>
    obtain ⟨k, hk, rfl, hN, hG⟩ := hrel
    have J := Lib.hid hk; have N := Lib.hid hN; have G := Lib.hid hG
    clear hk hN hG
    have hk2 : k ≤ A.length := by have := J.out; omega
    by_cases hlt : k < A.length
    · rcases HX.out with h0 | ⟨ga, oa, rfl, hc⟩
      · rw [h0] at hlt; simp at hlt
      have hget := List.getElem?_eq_getElem hlt
      have hfs := finL_succ A hlt
      obtain ⟨x, hxe⟩ : ∃ x, A[k] = x := ⟨_, rfl⟩
      rw [hxe] at hget hfs
      obtain ⟨k0, k1⟩ := KB.out x (hxe ▸ List.getElem_mem hlt)
      clear hxe
      have FS := Lib.hid hfs; clear hfs
      obtain ⟨c0, c1, c2, c3, c4⟩ := ReadsA.at hc hget
      have q0 : ga < w.heap.size := World.block_lt_of_cell? _ _ c0
      have d0 := (G.out.cell q0).trans c0
      have d1 := (G.out.cell q0).trans c1
      have d2 := (G.out.cell q0).trans c2
      have d3 := (G.out.cell q0).trans c3
      have d4 := (G.out.cell q0).trans c4
      clear c0 c1 c2 c3 c4 hc hget
      go_wp2_with fail
      refine (done_b _ _ (finL (A.take k)) x N.out k0 k1 _ rfl).mono ?_
      rintro e w3 ⟨rfl, hN, hK⟩
      have N3 := Lib.hid hN; have G3 := Lib.hid (Below.step G.out hB hK HS.out)
      clear hN hK d0 d1 d2 d3 d4
      go_wp2
      go_roundg (gk - 1)
      case measure => have := J.out; omega
      case rel => exact ⟨k + 1, by have := J.out; omega, by go_num, by rw [FS.out]; exact N3.out, G3.out⟩
    · have N3 : Hid (NetOk wr w.heap.size L) := by have := N.out; rw [List.take_of_length_le (by omega), HF.out] at this; exact Lib.hid this
      clear N KB SZ HX H
      have i4 : decide ((L.length : Int) < 64) = false := by rw [LE.out]; rfl
      go_wp2_with fail
      refine (all_form _ _ L L.length N3.out rfl).mono ?_
      rintro e w2 ⟨va, rfl, hR, hform, hK⟩
      rcases hform with ⟨_, h0⟩ | ⟨g2, cap2, rfl, hc2, hg2⟩
      · omega
      have hne7 : ¬ g2 = w.heap.size := by have := N3.out.lt; omega
      have NE := Lib.hid hne7; clear hne7 hg2
      have R2 := Lib.hid hR; have G2 := Lib.hid (Below.step G.out hB hK (fun _ f => f.elim)); have N2 := Lib.hid (N3.out.kept hK (fun f => f))
      clear hR hK
      go_wp2_with fail
      refine (look_i _ _ L n n m rfl N2.out HM.out).mono ?_
      rintro e w3 ⟨rfl, hK⟩
      have R3 := Lib.hid (R2.out.kept hK (fun _ _ f => f)); have G3 := Lib.hid (Below.step G2.out hB hK (fun _ f => f.elim)); have N4 := Lib.hid (N2.out.kept hK (fun f => f))
      clear hK
      go_wp2_with fail
      refine (all_form _ _ L L.length (N4.out.kept (S := fun _ => False) ((Kept.refl _ _).alloc _) (fun f => f)) rfl).mono ?_
      rintro e w5 ⟨v5, rfl, hR, hform, hK⟩
      rcases hform with ⟨_, h0⟩ | ⟨g5, cap5, rfl, hc5, _⟩
      · omega
      have R5 := Lib.hid hR; have G5 := Lib.hid (Below.step (G3.out.alloc' hB _) hB hK (fun _ f => f.elim)); have N5 := Lib.hid ((N4.out.kept (S := fun _ => False) ((Kept.refl _ _).alloc _) (fun f => f)).kept hK (fun f => f))
      have R5' := Lib.hid ((R3.out.kept (S := fun _ => False) ((Kept.refl _ _).alloc _) (fun _ _ f => f)).kept hK (fun _ _ f => f))
      clear hR hK
      go_wp2_with fail
      refine (same_yes _ _ _ L R5.out R5'.out (by omega)).mono ?_
      rintro e w6 ⟨rfl, hK⟩
      have R6 := Lib.hid (R5'.out.kept hK (fun _ _ f => f)); have G6 := Lib.hid (Below.step G5.out hB hK (fun _ f => f.elim)); have N6 := Lib.hid (N5.out.kept hK (fun f => f))
      clear hK R5 R5' hc5
      go_wp2_with fail
      refine (take_i _ _ L n n m rfl N6.out HM.out).mono ?_
      rintro e w12 ⟨rfl, hN, hK⟩
      have N12 := Lib.hid hN; have G12 := Lib.hid (Below.step G6.out hB hK HS.out); have R12 := Lib.hid (R6.out.kept hK (fun k hk e => by injection hk with hk; exact NE.out (hk.trans e)))
      clear hN hK
      go_wp2_with fail
      refine (all_form _ _ (L.eraseIdx n) (L.length - 1) (N12.out.kept (S := fun _ => False) ((Kept.refl _ _).alloc _) (fun f => f)) (List.length_eraseIdx_of_lt hn)).mono ?_
      rintro e w13 ⟨v13, rfl, hR, hform, hK⟩
      have N13 := Lib.hid ((N12.out.kept (S := fun _ => False) ((Kept.refl _ _).alloc _) (fun f => f)).kept hK (fun f => f))
      have G13 := Lib.hid (Below.step (G12.out.alloc' hB _) hB hK (fun _ f => f.elim))
      have r13 := (R12.out.kept (S := fun _ => False) ((Kept.refl (fun _ => False) w12).alloc (Obj.cells #[.int .i64 m.f, .int .i64 m.t, .string m.d] 31)) (fun _ _ f => f)).kept hK (fun _ _ f => f)
      have R13 := Lib.hid r13
      obtain ⟨ar, cr, hvr, hxr⟩ := r13
      have hx13 : ∀ j u, (cellsL L)[j]? = some u → w13.cell? ⟨g2, 0 + j, none⟩ = some u := by
        rcases hxr with h0 | ⟨gg, oo, e, hc⟩
        · intro j u hu; rw [h0] at hu; cases hu
        · injection hvr with e1 e2 e3
          rw [← e1] at e
          injection e with e; injection e with e4 e5
          subst e4; subst e5; exact hc
      obtain ⟨p0, p1, p2⟩ := Reads.at hx13 HM.out
      rw [Nat.zero_add] at p0 p1 p2
      obtain ⟨z0, z1, z2, _, _⟩ := hK.fresh3 (fun f => f)
      clear hK hvr hxr hx13
      have RN := Lib.hid hR; clear hR
      have hs31 := s31
      have hg31 := g31
      have hq31 := eql31
      have hqm := eqM_true.2 (rfl : m = m)
      have w1' : IntKind.i64.wrap ((L.length : Int) - 1) = (L.length : Int) - 1 := IntWalk.i64_in _ (by omega)
      have w2' : IntKind.i64.wrap ((n : Int) + 1) = (n : Int) + 1 := IntWalk.i64_in _ (by omega)
      have t1 : ((n : Int) + 1).toNat = n + 1 := by omega
      have i6 : (n : Int) ≤ (cap2 : Int) := by omega
      have i7 : (n : Int) + 1 ≤ (L.length : Int) := by omega
      have i8 : (0 : Int) ≤ (n : Int) + 1 := by omega
      have i10 : (L.length : Int) ≤ (cap2 : Int) := by omega
      have hb1 : ((((L.length - 1 : Nat)) : Int) == (L.length : Int) - 1) = true := by rw [beq_iff_eq]; omega
      obtain ⟨XB, hXB, hrB⟩ := slice_from_z g2 (n + 1) L.length cap2 ((n : Int) + 1) (by omega) (by omega) hc2
      have XB' := Lib.hid hXB; clear hXB
      rcases hform with ⟨rfl, h0⟩ | ⟨g13, cap13, rfl, hc13, _⟩
      · have hn0 : n = 0 := by omega
        have hl0 : L.length - 1 = 0 := by omega
        have i13 : (n : Int) ≤ 0 := by omega
        have hb2 : ((0 : Int) == (L.length : Int) - 1) = true := by rw [beq_iff_eq]; omega
        have hnA := nil_to n hn0
        have hnB := nil_from n hn0
        have HN0 := Lib.hid hn0; have HL0 := Lib.hid hl0
        clear h0 hb1 hn0 hl0
        go_upto_region 22 with fail
        go_region_held3 (fun w' => w'.cell? ⟨w12.heap.size, 0, none⟩ = some (.int .i64 m.f) ∧ w'.cell? ⟨w12.heap.size, 1, none⟩ = some (.int .i64 m.t) ∧ w'.cell? ⟨w12.heap.size, 2, none⟩ = some (.string m.d) ∧ w'.cell? ⟨g2, n * 3, none⟩ = some (.int .i64 m.f) ∧ w'.cell? ⟨g2, n * 3 + 1, none⟩ = some (.int .i64 m.t) ∧ w'.cell? ⟨g2, n * 3 + 2, none⟩ = some (.string m.d)) (first | go_keep | (go_split_ands; exact ⟨hKn.cell (by assumption) (fun f => f), hKn.cell (by assumption) (fun f => f), hKn.cell (by assumption) (fun f => f), hKn.cell (by assumption) (fun f => f), hKn.cell (by assumption) (fun f => f), hKn.cell (by assumption) (fun f => f)⟩))
          (first
            | (go_at_call 16; refine (does_any _).mono ?_; rintro e w16 ⟨rfl, hKn⟩; (have G16 := Lib.hid (Below.step G15.out hB hKn (fun _ f => f.elim))))
            | (go_at_call 15; refine (same_yes _ _ _ [] ?_ ?_ (by simp)).mono ?_; (exact reads_none (by have := HN0.out; omega)); (exact reads_none (by have := HN0.out; have := HL0.out; omega)); rintro e w15 ⟨rfl, hKn⟩; (have G15 := Lib.hid (Below.step G14.out hB hKn (fun _ f => f.elim))))
            | (go_at_call 15; refine (same_yes _ _ _ [] ?_ ?_ (by simp)).mono ?_; (exact reads_none (by have := HN0.out; omega)); (exact reads_none (by have := HN0.out; omega)); rintro e w14 ⟨rfl, hKn⟩; (have G14 := Lib.hid (Below.step (G13.out.drewN' 1) hB hKn (fun _ f => f.elim)))))
        all_goals go_wp2
        all_goals go_ret
        all_goals exact ⟨rfl, G16.out⟩
      · have i11 : (n : Int) ≤ (cap13 : Int) := by omega
        have i12 : (n : Int) ≤ ((L.length - 1 : Nat) : Int) := by omega
        obtain ⟨XA, hXA, hrA⟩ := slice_from g13 n (L.length - 1) cap13 (by omega) hc13
        have XA' := Lib.hid hXA; clear hXA
        go_upto_region 22 with fail
        go_region_held3 (fun w' => w'.cell? ⟨w12.heap.size, 0, none⟩ = some (.int .i64 m.f) ∧ w'.cell? ⟨w12.heap.size, 1, none⟩ = some (.int .i64 m.t) ∧ w'.cell? ⟨w12.heap.size, 2, none⟩ = some (.string m.d) ∧ w'.cell? ⟨g2, n * 3, none⟩ = some (.int .i64 m.f) ∧ w'.cell? ⟨g2, n * 3 + 1, none⟩ = some (.int .i64 m.t) ∧ w'.cell? ⟨g2, n * 3 + 2, none⟩ = some (.string m.d)) (first | go_keep | (go_split_ands; exact ⟨hKn.cell (by assumption) (fun f => f), hKn.cell (by assumption) (fun f => f), hKn.cell (by assumption) (fun f => f), hKn.cell (by assumption) (fun f => f), hKn.cell (by assumption) (fun f => f), hKn.cell (by assumption) (fun f => f)⟩))
          (first
            | (go_at_call 16; refine (does_any _).mono ?_; rintro e w16 ⟨rfl, hKn⟩; (have G16 := Lib.hid (Below.step G15.out hB hKn (fun _ f => f.elim))))
            | (go_at_call 15; refine (same_yes _ _ _ (L.drop (n + 1)) ?_ ?_ (by rw [List.length_drop]; omega)).mono ?_; (rw [← erase_drop L n (by omega)]; exact RN14.out.drop n _ (by rw [List.length_eraseIdx_of_lt hn]) (fun h => XA'.out (by rwa [List.length_eraseIdx_of_lt hn] at h))); (exact R14.out.drop (n + 1) _ (by omega) (fun h => XB'.out h)); rintro e w15 ⟨rfl, hKn⟩; (have G15 := Lib.hid (Below.step G14.out hB hKn (fun _ f => f.elim))))
            | (go_at_call 15; refine (same_yes _ _ _ (L.take n) ?_ ?_ (by rw [List.length_take]; omega)).mono ?_; (rw [← erase_take L n (by omega)]; exact (RN.out.kept (kept_drewN _ 1) (fun _ _ f => f)).take n (by rw [List.length_eraseIdx_of_lt hn]; omega)); (exact (R13.out.kept (kept_drewN _ 1) (fun _ _ f => f)).take n (by omega)); rintro e w14 ⟨rfl, hKn⟩; (have G14 := Lib.hid (Below.step (G13.out.drewN' 1) hB hKn (fun _ f => f.elim))); (have R14 := Lib.hid ((R13.out.kept (kept_drewN _ 1) (fun _ _ f => f)).kept hKn (fun _ _ f => f))); (have RN14 := Lib.hid ((RN.out.kept (kept_drewN _ 1) (fun _ _ f => f)).kept hKn (fun _ _ f => f)))))
        all_goals go_wp2
        all_goals go_ret
        all_goals exact ⟨rfl, G16.out⟩

set_option maxRecDepth 100000 in
set_option maxHeartbeats 4000000 in
theorem places_great (w : World) (v : Value) (A : List Act') (i : Int) (h : ReadsA w v A) (hl : A.length ≤ 9223372036854775807) (hall : ∀ y ∈ A, 0 ≤ y.kind ∧ y.kind < 256 ∧ y.m.d.size ≤ 9223372036854775807) (hg : greatB A = true) :
    Calls Try.prog 6 #[v, .int .i64 i] w fun e w' => e = .returned (.bool true) ∧ Below w.heap.size w w' := by
  have SZ := Lib.hid (fun y hy => (hall y hy).2.2 : ∀ y ∈ A, y.m.d.size ≤ 9223372036854775807)
  clear hall
  have H := Lib.hid h; clear h
  go_enter Try.func6, Try.ntmps6
  go_wp2_with fail
  refine (great_any _ _ A H.out hl SZ.out).mono ?_
  rintro e w1 ⟨rfl, rfl⟩
  rw [hg]
  go_wp2
  go_ret
  exact ⟨rfl, Below.refl _ _⟩

theorem sendL_le (L : List Mail) (m : Mail) (h : L.length ≤ 64) : (sendL L m).length ≤ 64 := by
  unfold sendL putL; split
  · rw [insL_length _ _ _ (Nat.le_refl _)]; omega
  · exact h
theorem finL_le (A : List Act') (hA : ∀ y ∈ A, 0 ≤ y.kind) : ∀ k, k ≤ A.length → (finL (A.take k)).length ≤ 64
  | 0, _ => by simp [finL]
  | k + 1, h => by
    rw [finL_succ A h]
    have hk := hA _ (List.getElem_mem (show k < A.length by omega))
    exact (adds _ _ Mail.zero (finL_le A hA k (by omega)) (by omega) (by omega)).2.2.2

theorem netsPlaces_any (w : World) (v : Value) (A : List Act') (i : Int) (h : ReadsA w v A) (hl : A.length ≤ 9223372036854775807) (hall : ∀ y ∈ A, 0 ≤ y.kind ∧ y.kind < 256 ∧ y.m.d.size ≤ 9223372036854775807) :
    Calls Try.prog 6 #[v, .int .i64 i] w fun e w' => e = .returned (.bool true) ∧ Below w.heap.size w w' := by
  cases hg : greatB A with
  | true => exact places_great w v A i h hl hall hg
  | false =>
    by_cases hi : inR (finL A) i
    · obtain ⟨n, rfl, hn, _, hm⟩ := inR_nat hi
      have hle := finL_le A (fun y hy => (hall y hy).1) A.length (Nat.le_refl _)
      rw [List.take_length] at hle
      by_cases h64 : (finL A).length < 64
      · exact places_room w v A n _ _ h hl hall hg rfl hm h64
      · exact places_full w v A n _ _ h hl hall hg rfl hm (by omega)
    · exact places_no w v A i _ h hl hall hg rfl hi
end Go.Proofs.Ytgafedmabaeemaa
