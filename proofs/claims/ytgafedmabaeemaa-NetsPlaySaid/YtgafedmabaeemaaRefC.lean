/- The walks over the reference's net, third part: Lose, Take, Double. -/
import Derived.Test.YtgafedmabaeemaaRefB
namespace Go.Proofs.Ytgafedmabaeemaa
open Go.RowKit

theorem rsend_at (w : World) (base r : Nat) (v : Value) (L : List Mail) (m : Mail) (h : RefOk w base r v L) (hb : base ≤ w.heap.size) :
    Calls Try.prog 26 #[.pointer (some ⟨r, 0, none⟩), m.val] w fun e w' => e = .returned (.bool (roomB L)) ∧ RefNow w w' base r v (sendL L m) := by
  by_cases hl : L.length < 64
  · refine (rsend_room w base r v L m h hl hb).mono fun e w' ⟨h1, h2⟩ => ⟨by rw [h1, roomB, decide_eq_true hl], ?_⟩
    have : sendL L m = L ++ [m] := by simp [sendL, putL, hl, insL]
    rw [this]; exact h2
  · refine (rsend_full w base r v L m h hl).mono fun e w' ⟨h1, h2⟩ => ⟨by rw [h1, roomB, decide_eq_false hl], ?_⟩
    have : sendL L m = L := by simp [sendL, putL, hl]
    rw [this]; exact ⟨⟨v, h.kept h2 (fun f => f) (fun _ _ f => f), fun k hk => .inl hk⟩, h2.mono (fun _ _ f => f.elim)⟩

set_option maxHeartbeats 1000000 in
theorem rlose_no (w : World) (base r : Nat) (v : Value) (L : List Mail) (i : Int) (h : RefOk w base r v L) (hi : i < 0 ∨ (L.length : Int) ≤ i) :
    Calls Try.prog 25 #[.pointer (some ⟨r, 0, none⟩), .int .i64 i] w fun e w' => e = .returned (.bool false) ∧ w = w' := by
  have H := Lib.hid h; have I := Lib.hid hi; clear h hi
  go_enter Try.func25, Try.ntmps25
  go_wp2_with (go_at_call 29; refine (is_no _ base r v L i H.out I.out).mono ?_; rintro e w' ⟨rfl, rfl⟩)
  go_ret
  exact ⟨rfl, rfl⟩

theorem cellsL_take : ∀ (L : List Mail) (i : Nat), cellsL (L.take i) = (cellsL L).take (i * 3)
  | _, 0 => by simp [cellsL]
  | [], i + 1 => by simp [cellsL]
  | m :: l, i + 1 => by rw [show (i + 1) * 3 = i * 3 + 3 by omega]; simp [cellsL, cellsL_take l i]
theorem cellsL_drop : ∀ (L : List Mail) (i : Nat), cellsL (L.drop i) = (cellsL L).drop (i * 3)
  | _, 0 => by simp
  | [], i + 1 => by simp [cellsL]
  | m :: l, i + 1 => by rw [show (i + 1) * 3 = i * 3 + 3 by omega]; simp [cellsL, cellsL_drop l i]
theorem cellsL_one : ∀ (L : List Mail), ∀ u ∈ cellsL L, u.oneCell' = true
  | [], u, h => by cases h
  | m :: l, u, h => by
    simp only [cellsL, List.mem_cons] at h
    rcases h with rfl | rfl | rfl | h
    · rfl
    · rfl
    · rfl
    · exact cellsL_one l u h
theorem add_mid (b o j : Nat) : (⟨b, o, none⟩ : Addr).add j = ⟨b, o + j, none⟩ := by unfold Addr.add; split <;> simp_all
/-- The cells of a list's first messages, and of its last ones. -/
theorem src_take {w W : World} {g : Nat} {L : List Mail} {S : Nat → Prop} (hc : ∀ j u, (cellsL L)[j]? = some u → w.cell? ⟨g, j, none⟩ = some u) (i : Nat) (hK : Kept S w W) (hS : ¬ S g) :
    ∀ j u, (cellsL (L.take i))[j]? = some u → W.cell? ((⟨g, 0, none⟩ : Addr).add j) = some u := fun j u hu => by
  rw [cellsL_take, List.getElem?_take] at hu
  split at hu
  · rw [add_mid, Nat.zero_add]; exact hK.cell (hc j u hu) hS
  · cases hu
theorem src_drop {w W : World} {g : Nat} {L : List Mail} {S : Nat → Prop} (hc : ∀ j u, (cellsL L)[j]? = some u → w.cell? ⟨g, j, none⟩ = some u) (i : Nat) (hK : Kept S w W) (hS : ¬ S g) :
    ∀ j u, (cellsL (L.drop i))[j]? = some u → W.cell? ((⟨g, i * 3, none⟩ : Addr).add j) = some u := fun j u hu => by
  rw [cellsL_drop, List.getElem?_drop] at hu
  rw [add_mid]; exact hK.cell (hc _ u hu) hS

/-- Where a slice lies behind an append: in the elder one's block, or in a new one. -/
theorem own_ge {v v0 : Value} {W : World} {n k : Nat} (h : v.ownBlock = v0.ownBlock ∨ v.ownBlock = some W.heap.size) (h0 : ∀ k, v0.ownBlock = some k → n ≤ k) (hW : n ≤ W.heap.size) (hk : v.ownBlock = some k) : n ≤ k := by
  rcases h with h | h
  · exact h0 k (h ▸ hk)
  · rw [hk] at h; have := Option.some.inj h; omega
theorem own_fresh {n l c k : Nat} (h : (Value.slice (some ⟨n, 0, none⟩) l c).ownBlock = some k) : n ≤ k := by
  have := Option.some.inj h; exact Nat.le_of_eq this

set_option maxHeartbeats 2000000 in
theorem rlose_at (w : World) (base r : Nat) (v : Value) (L : List Mail) (i : Nat) (h : RefOk w base r v L) (hi : i < L.length) (hb : base ≤ w.heap.size) :
    Calls Try.prog 25 #[.pointer (some ⟨r, 0, none⟩), .int .i64 i] w fun e w' => e = .returned (.bool true) ∧ RefNow w w' base r v (L.eraseIdx i) := by
  obtain ⟨i0, hi0, hz0, hz1, hz2⟩ := info_parts Try.info31
  have hr := h.read
  have hlt := h.lt
  have hle := h.le
  have hfz := h.frozen 0
  rcases row_form h.row with ⟨rfl, hn⟩ | ⟨g, cap, rfl, hc, hbg, hg, hcell⟩
  · omega
  · have H := Lib.hid h
    have HC := Lib.hid hcell
    clear h hcell
    have hci : (i : Int) ≤ cap := by omega
    have hci2 : (i : Int) + 1 ≤ L.length := by omega
    have hw : IntKind.i64.wrap ((i : Int) + 1) = (i : Int) + 1 := IntWalk.i64_in _ (by omega)
    have hci3 : (0 : Int) ≤ (i : Int) + 1 := by omega
    have htn : ((i : Int) + 1).toNat = i + 1 := by omega
    have hx : (i : Int) ≤ (i : Int) + 1 := by omega
    have hcase : cap = i + 1 ∨ ¬ cap = i + 1 := by omega
    have hlen : i + (L.length - (i + 1)) = (L.eraseIdx i).length := by rw [List.length_eraseIdx_of_lt hi]; omega
    have hcells : cellsL (L.eraseIdx i) = cellsL (L.take i) ++ cellsL (L.drop (i + 1)) := by rw [List.eraseIdx_eq_take_drop_succ, cellsL_append]
    have HL := Lib.hid hlen; have HE := Lib.hid hcells
    clear hlen hcells
    rcases hcase with rfl | hcap
    · go_enter Try.func25, Try.ntmps25
      go_wp2_with (go_at_call 29; refine (is_yes _ base r _ L i H.out hi).mono ?_; rintro e w' ⟨rfl, rfl⟩)
      go_region_law
        (first
          | (refine step_app (by rfl) _ _ 27 (by rfl) base 31 i0 _ 3 32 Try.underlying27 hi0 hz0 hz1 hz2 (by rfl) (by decide) _ 0 [] (by rfl) (World.ownsRow_made _ #[] 0 hb (by unfold maxLen; omega) (by rfl)) ⟨g, 0, none⟩ i _ (cellsL (L.take i)) (by rfl) ?_ ?_ ?_ ?_ ?_ ?_ ?_; (rw [cellsL_length, List.length_take, Nat.min_eq_left (by omega)]); (exact src_take (S := fun _ => False) HC.out _ (((Kept.refl _ _).alloc _).drew) (fun f => f)); (exact cellsL_one _); (unfold maxLen; omega); omega; (simp; omega); intro ao1 cap1 w2 hown2 hgr1 hat1; (rw [Nat.zero_add, List.nil_append] at hown2); (rw [Nat.zero_add] at hat1); (have K2 : Kept (fun _ => False) w w2 := (((Kept.refl (fun _ => False) w).alloc _).drew).grown hgr1 (fun k hk hlt' => by simp [Value.ownBlock] at hk; omega)); (have nb1 : ∀ k, (Value.slice ao1 i cap1).ownBlock = some k → w.heap.size ≤ k := fun k hk => own_ge hat1 (fun k hk => own_fresh hk) (by simp) hk); (have s0 := K2.cell hr (fun f => f)); (have sf := K2.frozen hfz hlt (fun f => f)))
          | (refine step_app (by rfl) _ _ 27 (by rfl) base 31 i0 _ 3 32 Try.underlying27 hi0 hz0 hz1 hz2 (by rfl) (by decide) _ i _ (by rfl) hown2 _ 0 _ [] (by rfl) ?_ ?_ ?_ ?_ ?_ ?_ ?_; (rfl); (intro j u hu; cases hu); (intro u hu; cases hu); (unfold maxLen; omega); omega; (have := K2.size; omega); intro ao2 cap2 w3 hown3 hgr2 hat2; (have K3 : Kept (fun _ => False) w w3 := K2.grown hgr2 (fun k hk hlt' => absurd (nb1 k hk) (by omega))); (have nb2 : ∀ k, (Value.slice ao2 (i + 0) cap2).ownBlock = some k → w.heap.size ≤ k := fun k hk => own_ge hat2 nb1 K2.size hk); (have t0 := K3.cell hr (fun f => f)); (have tf := K3.frozen hfz hlt (fun f => f))))
      all_goals go_wp2
      all_goals go_ret
      all_goals
        refine ⟨rfl, rstore (L := L.eraseIdx i) (T := fun _ => False) H.out K3 (fun _ _ f => f.elim) ?_ (fun k hk => .inr (nb2 k hk)) (by rw [← HL.out]; omega)⟩
        have e1 : L.drop (i + 1) = [] := List.drop_eq_nil_of_le (by omega)
        have e2 : (L.eraseIdx i).length = i + 0 := by rw [← HL.out]; omega
        rw [e2, HE.out, e1]
        exact hown3
    · go_enter Try.func25, Try.ntmps25
      go_wp2_with (go_at_call 29; refine (is_yes _ base r _ L i H.out hi).mono ?_; rintro e w' ⟨rfl, rfl⟩)
      go_region_law
        (first
          | (refine step_app (by rfl) _ _ 27 (by rfl) base 31 i0 _ 3 32 Try.underlying27 hi0 hz0 hz1 hz2 (by rfl) (by decide) _ 0 [] (by rfl) (World.ownsRow_made _ #[] 0 hb (by unfold maxLen; omega) (by rfl)) ⟨g, 0, none⟩ i _ (cellsL (L.take i)) (by rfl) ?_ ?_ ?_ ?_ ?_ ?_ ?_; (rw [cellsL_length, List.length_take, Nat.min_eq_left (by omega)]); (exact src_take (S := fun _ => False) HC.out _ (((Kept.refl _ _).alloc _).drew) (fun f => f)); (exact cellsL_one _); (unfold maxLen; omega); omega; (simp; omega); intro ao1 cap1 w2 hown2 hgr1 hat1; (rw [Nat.zero_add, List.nil_append] at hown2); (rw [Nat.zero_add] at hat1); (have K2 : Kept (fun _ => False) w w2 := (((Kept.refl (fun _ => False) w).alloc _).drew).grown hgr1 (fun k hk hlt' => by simp [Value.ownBlock] at hk; omega)); (have nb1 : ∀ k, (Value.slice ao1 i cap1).ownBlock = some k → w.heap.size ≤ k := fun k hk => own_ge hat1 (fun k hk => own_fresh hk) (by simp) hk); (have s0 := K2.cell hr (fun f => f)); (have sf := K2.frozen hfz hlt (fun f => f)))
          | (refine step_app (by rfl) _ _ 27 (by rfl) base 31 i0 _ 3 32 Try.underlying27 hi0 hz0 hz1 hz2 (by rfl) (by decide) _ i _ (by rfl) hown2 _ (L.length - (i + 1)) _ (cellsL (L.drop (i + 1))) (by rfl) ?_ ?_ ?_ ?_ ?_ ?_ ?_; (rw [cellsL_length, List.length_drop]); (exact src_drop HC.out _ K2 (fun f => f)); (exact cellsL_one _); (unfold maxLen; omega); omega; (have := K2.size; omega); intro ao2 cap2 w3 hown3 hgr2 hat2; (have K3 : Kept (fun _ => False) w w3 := K2.grown hgr2 (fun k hk hlt' => absurd (nb1 k hk) (by omega))); (have nb2 : ∀ k, (Value.slice ao2 (i + (L.length - (i + 1))) cap2).ownBlock = some k → w.heap.size ≤ k := fun k hk => own_ge hat2 nb1 K2.size hk); (have t0 := K3.cell hr (fun f => f)); (have tf := K3.frozen hfz hlt (fun f => f))))
      all_goals go_wp2
      all_goals go_ret
      all_goals
        refine ⟨rfl, rstore (L := L.eraseIdx i) (T := fun _ => False) H.out K3 (fun _ _ f => f.elim) ?_ (fun k hk => .inr (nb2 k hk)) (by rw [← HL.out]; omega)⟩
        rw [← HL.out, HE.out]
        exact hown3
end Go.Proofs.Ytgafedmabaeemaa
