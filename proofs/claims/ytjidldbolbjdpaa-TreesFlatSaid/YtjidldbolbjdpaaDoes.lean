/- spoorlaw14.does. -/
import Derived.Test.YtjidldbolbjdpaaDoes1
namespace Go.Proofs.Ytjidldbolbjdpaa
open Go.RowKit

def T1 : Nat → Prop := fun _ => True
theorem readsS_new (w : World) (L : List Spn) : ReadsS (w.alloc (.cells (cellsS L).toArray 24)) (.slice (some ⟨w.heap.size, 0, none⟩) L.length L.length) L := by
  by_cases h0 : L = []
  · exact ⟨_, _, rfl, .inl h0⟩
  · refine ⟨_, _, rfl, .inr ⟨_, 0, rfl, fun j u hu => ?_⟩⟩
    have := World.news_of_block (heap_alloc_new w (.cells (cellsS L).toArray 24)) j u (by simpa using hu)
    rw [Nat.zero_add]
    rwa [add_mid, Nat.zero_add] at this
theorem readsF_new (w : World) (l : List NR) (hk : ∀ x ∈ l, ReadsF T1 w x.v x.f) : ReadsF T1 (w.alloc (.cells (cellsN l).toArray 39)) (.slice (some ⟨w.heap.size, 0, none⟩) (frN l).len (frN l).len) (frN l) := by
  refine ⟨_, _, rfl, .inr ⟨_, 0, rfl, rowF_of trivial l 0 (fun x hx => (hk x hx).kept ((Kept.refl _ w).alloc _)) (fun j u hu => ?_)⟩⟩
  have := World.news_of_block (heap_alloc_new w (.cells (cellsN l).toArray 39)) j u (by simpa using hu)
  rw [Nat.zero_add]
  rwa [add_mid, Nat.zero_add] at this

theorem readsF_new' (w : World) (H : Nat) (hH : w.heap.size = H) (l : List NR) (hk : ∀ x ∈ l, ReadsF T1 w x.v x.f) : ReadsF T1 (w.alloc (.cells (cellsN l).toArray 39)) (.slice (some ⟨H, 0, none⟩) (frN l).len (frN l).len) (frN l) := by
  subst hH; exact readsF_new w l hk
theorem cells2_new (w : World) (H : Nat) (hH : w.heap.size = H) (x y : Value) : (w.alloc (.cells #[x, y] 28)).cell? ⟨H, 0, none⟩ = some x ∧ (w.alloc (.cells #[x, y] 28)).cell? ⟨H, 1, none⟩ = some y := by
  subst hH; exact ⟨by simp, by simp⟩
theorem cut3 {P : Program} {id : Nat} {ops : Array Oper} {d : Bool} {Q : Exit → Act → World → Prop} {a : Act} {w : World} {A : Nat → Nat → Nat → Act} (POST : Nat → Nat → Nat → World → Prop)
    (h1 : (∀ x y z w', POST x y z w' → Q .normal (A x y z) w') → (Code.region id ops d).wp P Q a w) (h2 : ∀ x y z w', POST x y z w' → Q .normal (A x y z) w') : (Code.region id ops d).wp P Q a w := h1 h2
set_option maxHeartbeats 8000000 in
set_option maxRecDepth 100000 in
theorem does_any (w : World) : Calls Try.prog 13 #[] w fun e w' => e = .returned (.bool true) ∧ Kept (fun _ => False) w w' := by
  go_enter Try.func13, Try.ntmps13
  have HF := Lib.hid (fun w' (k' : Kept (fun _ => False) w w') => And.intro k' True.intro)
  go_wp2_with fail
  refine (some_any _ 1 0).mono ?_
  rintro e w1 ⟨rfl, k⟩
  have HF := Lib.hid (fun w' (k' : Kept (fun _ => False) w1 w') => HF.out w' (keptFF k k'))
  clear k
  go_wp2_with fail
  refine (some_any _ 3 1).mono ?_
  rintro e w2 ⟨rfl, k⟩
  have HF := Lib.hid (fun w' (k' : Kept (fun _ => False) w2 w') => HF.out w' (keptFF k k'))
  clear k
  go_wp2_with fail
  refine (some_any _ 2 1).mono ?_
  rintro e w3 ⟨rfl, k⟩
  have HF := Lib.hid (fun w' (k' : Kept (fun _ => False) w3 w') => HF.out w' (keptFF k k'))
  clear k
  go_wp2_with fail
  refine (some_any _ 4 2).mono ?_
  rintro e w4 ⟨rfl, k⟩
  have HF := Lib.hid (fun w' (k' : Kept (fun _ => False) w4 w') => HF.out w' (keptFF k k'))
  clear k
  have hrd := readsS_new w4 La
  go_wp2_with fail
  refine (tof_any (w4.alloc (.cells (cellsS La).toArray 24)) _ La hrd (by decide)).mono ?_
  rintro e w5 ⟨rva, ova, rfl, r, o, k⟩
  clear hrd
  rw [treeA.1] at r
  rw [treeA.2] at o
  obtain ⟨raa, rca, er, _⟩ := id r
  obtain ⟨oaa, oca, eo, _⟩ := id o
  replace er : rva = .slice raa 1 rca := er
  replace eo : ova = .slice oaa 0 oca := eo
  subst er eo
  have HF := Lib.hid (fun w' (k' : Kept (fun _ => False) w5 w') => HF.out w' (keptFF ((Kept.refl (fun _ => False) w4).alloc _) (keptFF k k')))
  have nf : ReadsF T1 w5 (.slice raa 1 rca) Xa := r.keptS (Kept.refl (fun _ => False) w5) (fun _ _ _ f => f) (fun _ _ _ => trivial)
  have HF := Lib.hid (fun w' (k' : Kept (fun _ => False) w5 w') => And.intro (show ReadsF T1 w' (.slice raa 1 rca) Xa from nf.kept k') (HF.out w' k'))
  clear nf
  have nf : ReadsF T1 w5 (.slice oaa 0 oca) .nil := o.keptS (Kept.refl (fun _ => False) w5) (fun _ _ _ f => f) (fun _ _ _ => trivial)
  have HF := Lib.hid (fun w' (k' : Kept (fun _ => False) w5 w') => And.intro (show ReadsF T1 w' (.slice oaa 0 oca) .nil from nf.kept k') (HF.out w' k'))
  clear nf
  clear r o k
  have kq := (Kept.refl (fun _ => False) w5).alloc (.cells #[.slice raa 1 rca, .slice oaa 0 oca] 28)
  have nf : (w5.alloc (.cells #[.slice raa 1 rca, .slice oaa 0 oca] 28)).cell? ⟨w5.heap.size, 0, none⟩ = some (.slice raa 1 rca) ∧ (w5.alloc (.cells #[.slice raa 1 rca, .slice oaa 0 oca] 28)).cell? ⟨w5.heap.size, 1, none⟩ = some (.slice oaa 0 oca) := ⟨by simp, by simp⟩
  have HF := Lib.hid (fun w' (k' : Kept (fun _ => False) (w5.alloc (.cells #[.slice raa 1 rca, .slice oaa 0 oca] 28)) w') => And.intro (show w'.cell? ⟨w5.heap.size, 0, none⟩ = some (.slice raa 1 rca) ∧ w'.cell? ⟨w5.heap.size, 1, none⟩ = some (.slice oaa 0 oca) from ⟨k'.cell nf.1 (fun f => f), k'.cell nf.2 (fun f => f)⟩) (HF.out w' (keptFF kq k')))
  clear kq nf
  go_wp2_with fail
  refine (some_any _ 5 9).mono ?_
  rintro e w6 ⟨rfl, k⟩
  have HF := Lib.hid (fun w' (k' : Kept (fun _ => False) w6 w') => HF.out w' (keptFF k k'))
  clear k
  go_wp2_with fail
  refine (some_any _ 6 5).mono ?_
  rintro e w7 ⟨rfl, k⟩
  have HF := Lib.hid (fun w' (k' : Kept (fun _ => False) w7 w') => HF.out w' (keptFF k k'))
  clear k
  go_wp2_with fail
  refine (some_any _ 1 0).mono ?_
  rintro e w8 ⟨rfl, k⟩
  have HF := Lib.hid (fun w' (k' : Kept (fun _ => False) w8 w') => HF.out w' (keptFF k k'))
  clear k
  go_wp2_with fail
  refine (some_any _ 7 8).mono ?_
  rintro e w9 ⟨rfl, k⟩
  have HF := Lib.hid (fun w' (k' : Kept (fun _ => False) w9 w') => HF.out w' (keptFF k k'))
  clear k
  go_wp2_with fail
  refine (some_any _ 8 7).mono ?_
  rintro e w10 ⟨rfl, k⟩
  have HF := Lib.hid (fun w' (k' : Kept (fun _ => False) w10 w') => HF.out w' (keptFF k k'))
  clear k
  have hrd := readsS_new w10 Lb
  go_wp2_with fail
  refine (tof_any (w10.alloc (.cells (cellsS Lb).toArray 24)) _ Lb hrd (by decide)).mono ?_
  rintro e w11 ⟨rvb, ovb, rfl, r, o, k⟩
  clear hrd
  rw [treeB.1] at r
  rw [treeB.2] at o
  obtain ⟨rab, rcb, er, _⟩ := id r
  obtain ⟨oab, ocb, eo, _⟩ := id o
  replace er : rvb = .slice rab 1 rcb := er
  replace eo : ovb = .slice oab 2 ocb := eo
  subst er eo
  have HF := Lib.hid (fun w' (k' : Kept (fun _ => False) w11 w') => HF.out w' (keptFF ((Kept.refl (fun _ => False) w10).alloc _) (keptFF k k')))
  have nf : ReadsF T1 w11 (.slice rab 1 rcb) Yr := r.keptS (Kept.refl (fun _ => False) w11) (fun _ _ _ f => f) (fun _ _ _ => trivial)
  have HF := Lib.hid (fun w' (k' : Kept (fun _ => False) w11 w') => And.intro (show ReadsF T1 w' (.slice rab 1 rcb) Yr from nf.kept k') (HF.out w' k'))
  clear nf
  have nf : ReadsF T1 w11 (.slice oab 2 ocb) Yo := o.keptS (Kept.refl (fun _ => False) w11) (fun _ _ _ f => f) (fun _ _ _ => trivial)
  have HF := Lib.hid (fun w' (k' : Kept (fun _ => False) w11 w') => And.intro (show ReadsF T1 w' (.slice oab 2 ocb) Yo from nf.kept k') (HF.out w' k'))
  clear nf
  clear r o k
  have kq := (Kept.refl (fun _ => False) w11).alloc (.cells #[.slice rab 1 rcb, .slice oab 2 ocb] 28)
  have nf : (w11.alloc (.cells #[.slice rab 1 rcb, .slice oab 2 ocb] 28)).cell? ⟨w11.heap.size, 0, none⟩ = some (.slice rab 1 rcb) ∧ (w11.alloc (.cells #[.slice rab 1 rcb, .slice oab 2 ocb] 28)).cell? ⟨w11.heap.size, 1, none⟩ = some (.slice oab 2 ocb) := ⟨by simp, by simp⟩
  have HF := Lib.hid (fun w' (k' : Kept (fun _ => False) (w11.alloc (.cells #[.slice rab 1 rcb, .slice oab 2 ocb] 28)) w') => And.intro (show w'.cell? ⟨w11.heap.size, 0, none⟩ = some (.slice rab 1 rcb) ∧ w'.cell? ⟨w11.heap.size, 1, none⟩ = some (.slice oab 2 ocb) from ⟨k'.cell nf.1 (fun f => f), k'.cell nf.2 (fun f => f)⟩) (HF.out w' (keptFF kq k')))
  clear kq nf
  go_wp2_with fail
  refine (some_any _ 2 2).mono ?_
  rintro e w12 ⟨rfl, k⟩
  have HF := Lib.hid (fun w' (k' : Kept (fun _ => False) w12 w') => HF.out w' (keptFF k k'))
  clear k
  go_wp2_with fail
  refine (some_any _ 3 2).mono ?_
  rintro e w13 ⟨rfl, k⟩
  have HF := Lib.hid (fun w' (k' : Kept (fun _ => False) w13 w') => HF.out w' (keptFF k k'))
  clear k
  go_wp2_with fail
  refine (some_any _ 2 0).mono ?_
  rintro e w14 ⟨rfl, k⟩
  have HF := Lib.hid (fun w' (k' : Kept (fun _ => False) w14 w') => HF.out w' (keptFF k k'))
  clear k
  have hrd := readsS_new w14 Lc
  go_wp2_with fail
  refine (tof_any (w14.alloc (.cells (cellsS Lc).toArray 24)) _ Lc hrd (by decide)).mono ?_
  rintro e w15 ⟨rvc, ovc, rfl, r, o, k⟩
  clear hrd
  rw [treeC.1] at r
  rw [treeC.2] at o
  obtain ⟨rac, rcc, er, _⟩ := id r
  obtain ⟨oac, occ, eo, _⟩ := id o
  replace er : rvc = .slice rac 0 rcc := er
  replace eo : ovc = .slice oac 1 occ := eo
  subst er eo
  have HF := Lib.hid (fun w' (k' : Kept (fun _ => False) w15 w') => HF.out w' (keptFF ((Kept.refl (fun _ => False) w14).alloc _) (keptFF k k')))
  have nf : ReadsF T1 w15 (.slice rac 0 rcc) .nil := r.keptS (Kept.refl (fun _ => False) w15) (fun _ _ _ f => f) (fun _ _ _ => trivial)
  have HF := Lib.hid (fun w' (k' : Kept (fun _ => False) w15 w') => And.intro (show ReadsF T1 w' (.slice rac 0 rcc) .nil from nf.kept k') (HF.out w' k'))
  clear nf
  have nf : ReadsF T1 w15 (.slice oac 1 occ) Zo := o.keptS (Kept.refl (fun _ => False) w15) (fun _ _ _ f => f) (fun _ _ _ => trivial)
  have HF := Lib.hid (fun w' (k' : Kept (fun _ => False) w15 w') => And.intro (show ReadsF T1 w' (.slice oac 1 occ) Zo from nf.kept k') (HF.out w' k'))
  clear nf
  clear r o k
  have kq := (Kept.refl (fun _ => False) w15).alloc (.cells #[.slice rac 0 rcc, .slice oac 1 occ] 28)
  have nf : (w15.alloc (.cells #[.slice rac 0 rcc, .slice oac 1 occ] 28)).cell? ⟨w15.heap.size, 0, none⟩ = some (.slice rac 0 rcc) ∧ (w15.alloc (.cells #[.slice rac 0 rcc, .slice oac 1 occ] 28)).cell? ⟨w15.heap.size, 1, none⟩ = some (.slice oac 1 occ) := ⟨by simp, by simp⟩
  have HF := Lib.hid (fun w' (k' : Kept (fun _ => False) (w15.alloc (.cells #[.slice rac 0 rcc, .slice oac 1 occ] 28)) w') => And.intro (show w'.cell? ⟨w15.heap.size, 0, none⟩ = some (.slice rac 0 rcc) ∧ w'.cell? ⟨w15.heap.size, 1, none⟩ = some (.slice oac 1 occ) from ⟨k'.cell nf.1 (fun f => f), k'.cell nf.2 (fun f => f)⟩) (HF.out w' (keptFF kq k')))
  clear kq nf
  go_wp2_with fail
  refine (some_any _ 2 1).mono ?_
  rintro e w16 ⟨rfl, k⟩
  have HF := Lib.hid (fun w' (k' : Kept (fun _ => False) w16 w') => HF.out w' (keptFF k k'))
  clear k
  go_wp2_with fail
  refine (leaf_any _ 4 2).mono ?_
  rintro e w17 ⟨rfl, k⟩
  have HF := Lib.hid (fun w' (k' : Kept (fun _ => False) w17 w') => HF.out w' (keptFF k k'))
  clear k
  have kq := (Kept.refl (fun _ => False) w17).alloc (.cells (cellsN [⟨someS 4 2, .slice none 0 0, .nil⟩]).toArray 39)
  have nf : ReadsF T1 (w17.alloc (.cells (cellsN [⟨someS 4 2, .slice none 0 0, .nil⟩]).toArray 39)) (.slice (some ⟨w17.heap.size, 0, none⟩) 1 1) (Fr.cons (someS 4 2) .nil .nil) := readsF_new' w17 (w17.heap.size) (by simp) [⟨someS 4 2, .slice none 0 0, .nil⟩] (fun x hx => by simp at hx; subst hx; exact ⟨none, 0, rfl, .inl rfl⟩)
  have HF := Lib.hid (fun w' (k' : Kept (fun _ => False) (w17.alloc (.cells (cellsN [⟨someS 4 2, .slice none 0 0, .nil⟩]).toArray 39)) w') => And.intro (show ReadsF T1 w' (.slice (some ⟨w17.heap.size, 0, none⟩) 1 1) (Fr.cons (someS 4 2) .nil .nil) from nf.kept k') (HF.out w' (keptFF kq k')))
  clear kq nf
  have kq := (Kept.refl (fun _ => False) (w17.alloc (.cells (cellsN [⟨someS 4 2, .slice none 0 0, .nil⟩]).toArray 39))).alloc (.cells ((someS 2 1).cells ++ [Value.slice (some ⟨w17.heap.size, 0, none⟩) 1 1]).toArray 39)
  have nf : ((w17.alloc (.cells (cellsN [⟨someS 4 2, .slice none 0 0, .nil⟩]).toArray 39)).alloc (.cells ((someS 2 1).cells ++ [Value.slice (some ⟨w17.heap.size, 0, none⟩) 1 1]).toArray 39)).rangeAt (w17.heap.size + 1) 0 ((someS 2 1).cells ++ [Value.slice (some ⟨w17.heap.size, 0, none⟩) 1 1]) := (fun j u hu => by have := World.news_of_block (heap_alloc_new (w17.alloc (.cells (cellsN [⟨someS 4 2, .slice none 0 0, .nil⟩]).toArray 39)) (.cells ((someS 2 1).cells ++ [Value.slice (some ⟨w17.heap.size, 0, none⟩) 1 1]).toArray 39)) j u (by simpa using hu); rw [show (w17.alloc (.cells (cellsN [⟨someS 4 2, .slice none 0 0, .nil⟩]).toArray 39)).heap.size = w17.heap.size + 1 from Array.size_push _] at this; rw [Nat.zero_add]; rwa [add_mid, Nat.zero_add] at this)
  have HF := Lib.hid (fun w' (k' : Kept (fun _ => False) ((w17.alloc (.cells (cellsN [⟨someS 4 2, .slice none 0 0, .nil⟩]).toArray 39)).alloc (.cells ((someS 2 1).cells ++ [Value.slice (some ⟨w17.heap.size, 0, none⟩) 1 1]).toArray 39)) w') => And.intro (show w'.rangeAt (w17.heap.size + 1) 0 ((someS 2 1).cells ++ [Value.slice (some ⟨w17.heap.size, 0, none⟩) 1 1]) from (fun j u hu => k'.cell (nf j u hu) (fun f => f))) (HF.out w' (keptFF kq k')))
  clear kq nf
  have HFX := Lib.hid (show True from trivial)
  go_wp2
  refine wp_gen (fun W => Kept (fun _ => False) ((w17.alloc (.cells (cellsN [⟨someS 4 2, .slice none 0 0, .nil⟩]).toArray 39)).alloc (.cells ((someS 2 1).cells ++ [Value.slice (some ⟨w17.heap.size, 0, none⟩) 1 1]).toArray 39)) W) (Kept.refl _ _) ?_
  intro wt k
  have HF := Lib.hid (fun w' (k' : Kept (fun _ => False) wt w') => HF.out w' (keptFF k k'))
  clear k HFX
  refine cut3 (A := ?A) (fun p1 p2 q w2 => (∀ j u, (cellsN [⟨someS 2 1, Value.slice (some ⟨w17.heap.size, 0, none⟩) 1 1, (Fr.cons (someS 4 2) .nil .nil)⟩, ⟨someS 3 1, .slice none 0 0, .nil⟩])[j]? = some u → w2.cell? ⟨p1, j, none⟩ = some u) ∧ (∀ j u, (cellsN [⟨someS 1 0, .slice (some ⟨p1, 0, none⟩) 2 2, (Fr.cons (someS 2 1) (Fr.cons (someS 4 2) .nil .nil) (.cons (someS 3 1) .nil .nil))⟩])[j]? = some u → w2.cell? ⟨p2, j, none⟩ = some u) ∧ (w2.cell? ⟨q, 0, none⟩ = some (.slice (some ⟨p2, 0, none⟩) 1 1) ∧ w2.cell? ⟨q, 1, none⟩ = some (.slice none 0 0)) ∧ Kept (fun _ => False) wt w2) ?h1 ?h2
  case h1 =>
    intro HC
    have TWO := Lib.hid (show ∀ w', Kept (fun _ => False) wt w' → w'.rangeAt (w17.heap.size + 1) 0 ((someS 2 1).cells ++ [Value.slice (some ⟨w17.heap.size, 0, none⟩) 1 1]) from fun w' k' => (HF.out w' k').1)
    refine wp_region_held_drew (S := (fun w' => w'.rangeAt (w17.heap.size + 1) 0 ((someS 2 1).cells ++ [Value.slice (some ⟨w17.heap.size, 0, none⟩) 1 1]))) (by kernel_rfl) ?_ (fun hHeld => ?_)
    · exact TWO.out _ (Kept.refl _ wt).drew
    refine wpAnyH_take (i := 1) (v := .agg #[.int .i64 (someS 2 1).tr, .int .i64 (someS 2 1).id, .int .i64 (someS 2 1).pa, .string (someS 2 1).se, .string (someS 2 1).ho, .int .i64 (someS 2 1).st, .int .i64 (someS 2 1).du, .string (someS 2 1).no, Value.slice (some ⟨w17.heap.size, 0, none⟩) 1 1]) opAt1 (by kernel_rfl) (by kernel_rfl) (by kernel_rfl) (fun _ _ _ h => h) (yieldsIf_load_mid (by rfl) 39 _ (by rfl) (w17.heap.size + 1) 0 (by rfl) ((someS 2 1).cells ++ [Value.slice (some ⟨w17.heap.size, 0, none⟩) 1 1]) _ (fun w hS => hS) Try.underlying39 rfl info39) hHeld ?_
    (try simp only [Act.put]); (try simp only [List.setIfInBounds_toArray]); (try simp only [List.set_cons_succ]); (try simp only [List.set_cons_zero])
    refine wpAnyH_gen (fun V => Kept (fun _ => False) wt V) ⟨rfl, rfl, rfl, Nat.le_refl _, fun _ _ _ => rfl⟩ ?_
    rintro V0 k0'
    have K0 := Lib.hid k0'
    have hHeld := TWO.out V0 k0'
    clear k0'
    refine wpAnyH_ready (rs := [0, 7]) (by kernel_rfl) (by simp) ?_
    refine AllReadyH.cons opAt0 (fun K hK => ?_) ?_
    · go_simp
      go_at_call 21
      refine (some_any _ 1 0).mono ?_
      rintro e V1 ⟨rfl, k⟩
      dsimp only
      have K1 := Lib.hid (keptFF K0.out k)
      clear k
      refine hK.out _ _ ?_ (fun hHeld => ?_)
      · exact TWO.out _ K1.out
      clear hK K
      (try simp only [Act.put]); (try simp only [List.setIfInBounds_toArray]); (try simp only [List.set_cons_succ]); (try simp only [List.set_cons_zero])
      refine wpAnyH_ready (rs := [2, 7]) (by kernel_rfl) (by simp) ?_
      refine AllReadyH.cons opAt2 (fun K hK => ?_) ?_
      · go_simp
        go_at_call 28
        refine (leaf_any _ 3 1).mono ?_
        rintro e V2 ⟨rfl, k⟩
        dsimp only
        have K2 := Lib.hid (keptFF K1.out k)
        clear k
        refine hK.out _ _ ?_ (fun hHeld => ?_)
        · exact TWO.out _ K2.out
        clear hK K
        (try simp only [Act.put]); (try simp only [List.setIfInBounds_toArray]); (try simp only [List.set_cons_succ]); (try simp only [List.set_cons_zero])
        refine wpAnyH_ready (rs := [3, 7]) (by kernel_rfl) (by simp) ?_
        refine AllReadyH.cons opAt3 (fun K hK => ?_) ?_
        · go_simp
          have k := (Kept.refl (fun _ => False) V2).alloc (.cells (cellsN [⟨someS 2 1, Value.slice (some ⟨w17.heap.size, 0, none⟩) 1 1, (Fr.cons (someS 4 2) .nil .nil)⟩, ⟨someS 3 1, .slice none 0 0, .nil⟩]).toArray 39)
          have nf : ∀ j u, (cellsN [⟨someS 2 1, Value.slice (some ⟨w17.heap.size, 0, none⟩) 1 1, (Fr.cons (someS 4 2) .nil .nil)⟩, ⟨someS 3 1, .slice none 0 0, .nil⟩])[j]? = some u → (V2.alloc (.cells (cellsN [⟨someS 2 1, Value.slice (some ⟨w17.heap.size, 0, none⟩) 1 1, (Fr.cons (someS 4 2) .nil .nil)⟩, ⟨someS 3 1, .slice none 0 0, .nil⟩]).toArray 39)).cell? ⟨V2.heap.size, j, none⟩ = some u := fun j u hu => by have := World.news_of_block (heap_alloc_new V2 (.cells (cellsN [⟨someS 2 1, Value.slice (some ⟨w17.heap.size, 0, none⟩) 1 1, (Fr.cons (someS 4 2) .nil .nil)⟩, ⟨someS 3 1, .slice none 0 0, .nil⟩]).toArray 39)) j u (by simpa using hu); rwa [add_mid, Nat.zero_add] at this
          have lt_ : V2.heap.size < (V2.alloc (.cells (cellsN [⟨someS 2 1, Value.slice (some ⟨w17.heap.size, 0, none⟩) 1 1, (Fr.cons (someS 4 2) .nil .nil)⟩, ⟨someS 3 1, .slice none 0 0, .nil⟩]).toArray 39)).heap.size := by simp
          refine hK.out _ (V2.alloc (.cells (cellsN [⟨someS 2 1, Value.slice (some ⟨w17.heap.size, 0, none⟩) 1 1, (Fr.cons (someS 4 2) .nil .nil)⟩, ⟨someS 3 1, .slice none 0 0, .nil⟩]).toArray 39)) ?_ (fun hHeld => ?_)
          · exact TWO.out _ (keptFF K2.out k)
          clear hK K
          (try simp only [Act.put]); (try simp only [List.setIfInBounds_toArray]); (try simp only [List.set_cons_succ]); (try simp only [List.set_cons_zero])
          obtain ⟨V3, hV⟩ : ∃ V, V2.alloc (.cells (cellsN [⟨someS 2 1, Value.slice (some ⟨w17.heap.size, 0, none⟩) 1 1, (Fr.cons (someS 4 2) .nil .nil)⟩, ⟨someS 3 1, .slice none 0 0, .nil⟩]).toArray 39) = V := ⟨_, rfl⟩
          obtain ⟨p1, hb⟩ : ∃ s, V2.heap.size = s := ⟨_, rfl⟩
          rw [hV] at k nf lt_
          rw [hb] at nf lt_
          try rw [hV]
          try rw [hb]
          try rw [hV] at hHeld
          have K3 := Lib.hid (keptFF K2.out k)
          have C1 := Lib.hid nf
          have LT1 := Lib.hid lt_
          clear k nf lt_ hV hb
          refine wpAnyH_take (i := 4) (v := ?_) opAt4 (by kernel_rfl) (by kernel_rfl) (by kernel_rfl) (fun _ _ _ h => h) (Or.inl ⟨by rfl, ?_⟩) hHeld ?_
          case refine_2 => (intro w hSw; (try dsimp only at hSw); go_simp; all_goals (with_reducible rfl))
          (try simp only [Act.put]); (try simp only [List.setIfInBounds_toArray]); (try simp only [List.set_cons_succ]); (try simp only [List.set_cons_zero])
          refine wpAnyH_ready (rs := [5, 7]) (by kernel_rfl) (by simp) ?_
          refine AllReadyH.cons opAt5 (fun K hK => ?_) ?_
          · go_simp
            have k := (Kept.refl (fun _ => False) V3).alloc (.cells (cellsN [⟨someS 1 0, .slice (some ⟨p1, 0, none⟩) 2 2, (Fr.cons (someS 2 1) (Fr.cons (someS 4 2) .nil .nil) (.cons (someS 3 1) .nil .nil))⟩]).toArray 39)
            have nf : ∀ j u, (cellsN [⟨someS 1 0, .slice (some ⟨p1, 0, none⟩) 2 2, (Fr.cons (someS 2 1) (Fr.cons (someS 4 2) .nil .nil) (.cons (someS 3 1) .nil .nil))⟩])[j]? = some u → (V3.alloc (.cells (cellsN [⟨someS 1 0, .slice (some ⟨p1, 0, none⟩) 2 2, (Fr.cons (someS 2 1) (Fr.cons (someS 4 2) .nil .nil) (.cons (someS 3 1) .nil .nil))⟩]).toArray 39)).cell? ⟨V3.heap.size, j, none⟩ = some u := fun j u hu => by have := World.news_of_block (heap_alloc_new V3 (.cells (cellsN [⟨someS 1 0, .slice (some ⟨p1, 0, none⟩) 2 2, (Fr.cons (someS 2 1) (Fr.cons (someS 4 2) .nil .nil) (.cons (someS 3 1) .nil .nil))⟩]).toArray 39)) j u (by simpa using hu); rwa [add_mid, Nat.zero_add] at this
            have lt_ : V3.heap.size < (V3.alloc (.cells (cellsN [⟨someS 1 0, .slice (some ⟨p1, 0, none⟩) 2 2, (Fr.cons (someS 2 1) (Fr.cons (someS 4 2) .nil .nil) (.cons (someS 3 1) .nil .nil))⟩]).toArray 39)).heap.size := by simp
            refine hK.out _ (V3.alloc (.cells (cellsN [⟨someS 1 0, .slice (some ⟨p1, 0, none⟩) 2 2, (Fr.cons (someS 2 1) (Fr.cons (someS 4 2) .nil .nil) (.cons (someS 3 1) .nil .nil))⟩]).toArray 39)) ?_ (fun hHeld => ?_)
            · exact TWO.out _ (keptFF K3.out k)
            clear hK K
            (try simp only [Act.put]); (try simp only [List.setIfInBounds_toArray]); (try simp only [List.set_cons_succ]); (try simp only [List.set_cons_zero])
            obtain ⟨V4, hV⟩ : ∃ V, V3.alloc (.cells (cellsN [⟨someS 1 0, .slice (some ⟨p1, 0, none⟩) 2 2, (Fr.cons (someS 2 1) (Fr.cons (someS 4 2) .nil .nil) (.cons (someS 3 1) .nil .nil))⟩]).toArray 39) = V := ⟨_, rfl⟩
            obtain ⟨p2, hb⟩ : ∃ s, V3.heap.size = s := ⟨_, rfl⟩
            rw [hV] at k nf lt_
            rw [hb] at nf lt_
            try rw [hV]
            try rw [hb]
            try rw [hV] at hHeld
            have K4 := Lib.hid (keptFF K3.out k)
            have C1 := Lib.hid (show ∀ j u, (cellsN [⟨someS 2 1, Value.slice (some ⟨w17.heap.size, 0, none⟩) 1 1, (Fr.cons (someS 4 2) .nil .nil)⟩, ⟨someS 3 1, .slice none 0 0, .nil⟩])[j]? = some u → V4.cell? ⟨p1, j, none⟩ = some u from fun j u hu => k.cell (C1.out j u hu) (fun f => f))
            have LT1 := Lib.hid (show p1 < V4.heap.size from Nat.lt_of_lt_of_le LT1.out k.size)
            have C2 := Lib.hid nf
            have LT2 := Lib.hid lt_
            clear k nf lt_ hV hb
            refine wpAnyH_take (i := 6) (v := ?_) opAt6 (by kernel_rfl) (by kernel_rfl) (by kernel_rfl) (fun _ _ _ h => h) (Or.inl ⟨by rfl, ?_⟩) hHeld ?_
            case refine_2 => (intro w hSw; (try dsimp only at hSw); go_simp; all_goals (with_reducible rfl))
            (try simp only [Act.put]); (try simp only [List.setIfInBounds_toArray]); (try simp only [List.set_cons_succ]); (try simp only [List.set_cons_zero])
            refine wpAnyH_ready (rs := [7]) (by kernel_rfl) (by simp) ?_
            refine AllReadyH.cons opAt7 (fun K hK => ?_) AllReadyH.nil
            go_simp
            have k := (Kept.refl (fun _ => False) V4).alloc (.cells #[.slice none 0 0, .slice none 0 0] 28)
            have nf := tree_new V4
            have lt_ : V4.heap.size < (V4.alloc (.cells #[.slice none 0 0, .slice none 0 0] 28)).heap.size := by simp
            refine hK.out _ (V4.alloc (.cells #[.slice none 0 0, .slice none 0 0] 28)) ?_ (fun hHeld => ?_)
            · exact TWO.out _ (keptFF K4.out k)
            clear hK K
            (try simp only [Act.put]); (try simp only [List.setIfInBounds_toArray]); (try simp only [List.set_cons_succ]); (try simp only [List.set_cons_zero])
            have NE1p : p1 ≠ V4.heap.size := fun e => by have h1 := LT1.out; omega
            have NE2p : p2 ≠ V4.heap.size := fun e => by have h1 := LT2.out; omega
            obtain ⟨V5, hV⟩ : ∃ V, V4.alloc (.cells #[.slice none 0 0, .slice none 0 0] 28) = V := ⟨_, rfl⟩
            obtain ⟨q, hb⟩ : ∃ s, V4.heap.size = s := ⟨_, rfl⟩
            rw [hV] at k nf lt_
            rw [hb] at nf lt_
            rw [hb] at NE1p
            have NE1 := Lib.hid NE1p
            clear NE1p
            rw [hb] at NE2p
            have NE2 := Lib.hid NE2p
            clear NE2p
            try rw [hV]
            try rw [hb]
            try rw [hV] at hHeld
            have K5 := Lib.hid (keptFF K4.out k)
            have C1 := Lib.hid (show ∀ j u, (cellsN [⟨someS 2 1, Value.slice (some ⟨w17.heap.size, 0, none⟩) 1 1, (Fr.cons (someS 4 2) .nil .nil)⟩, ⟨someS 3 1, .slice none 0 0, .nil⟩])[j]? = some u → V5.cell? ⟨p1, j, none⟩ = some u from fun j u hu => k.cell (C1.out j u hu) (fun f => f))
            have LT1 := Lib.hid (show p1 < V5.heap.size from Nat.lt_of_lt_of_le LT1.out k.size)
            have C2 := Lib.hid (show ∀ j u, (cellsN [⟨someS 1 0, .slice (some ⟨p1, 0, none⟩) 2 2, (Fr.cons (someS 2 1) (Fr.cons (someS 4 2) .nil .nil) (.cons (someS 3 1) .nil .nil))⟩])[j]? = some u → V5.cell? ⟨p2, j, none⟩ = some u from fun j u hu => k.cell (C2.out j u hu) (fun f => f))
            have LT2 := Lib.hid (show p2 < V5.heap.size from Nat.lt_of_lt_of_le LT2.out k.size)
            have OQ := Lib.hid nf
            have QN := Lib.hid (show ¬ q < wt.heap.size from fun h => by have h1 := K4.out.size; omega)
            clear k nf lt_ hV hb
            
            refine wpAnyH_ready (rs := [8]) (by kernel_rfl) (by simp) ?_
            refine AllReadyH.cons opAt8 (fun K hK => ?_) AllReadyH.nil
            have nf := thereN OQ.out
            refine step_store (by rfl) 28 _ _ (by rfl) q 0 [.slice (some ⟨p2, 0, none⟩) 1 1, .slice none 0 0] (by rfl) (by rfl) nf info28 (all_oneCell_toArray (fun v hv => by simp at hv; rcases hv with rfl | rfl <;> rfl)) ?_
            have KP := Kept.setCells (S := fun k => k = q) (fun _ => rfl) [Value.slice (some ⟨p2, 0, none⟩) 1 1, .slice none 0 0] 0 (Kept.refl (fun k => k = q) V5)
            have OQ2 := own_allN OQ.out [.slice (some ⟨p2, 0, none⟩) 1 1, .slice none 0 0] rfl
            have KW : Kept (fun _ => False) wt (V5.setCells q 0 [Value.slice (some ⟨p2, 0, none⟩) 1 1, .slice none 0 0]) := K5.out.trans KP (fun _ _ f => f) (fun k h e => QN.out (e ▸ h))
            refine hK.out _ (V5.setCells q 0 [Value.slice (some ⟨p2, 0, none⟩) 1 1, .slice none 0 0]) ?_ (fun hHeld => ?_)
            · exact TWO.out _ KW
            clear hK K
            (try simp only [Act.put]); (try simp only [List.setIfInBounds_toArray]); (try simp only [List.set_cons_succ]); (try simp only [List.set_cons_zero])
            refine wpAnyH_done (by kernel_rfl) ?_ _
            exact HC p1 p2 q _ ⟨fun j u hu => KP.cell (C1.out j u hu) NE1.out, fun j u hu => KP.cell (C2.out j u hu) NE2.out, ⟨own_cellN OQ2 (i := 0) rfl, own_cellN OQ2 (i := 1) rfl⟩, KW⟩
          refine AllReadyH.cons opAt7 (fun K hK => ?_) AllReadyH.nil
          go_simp
          have k := (Kept.refl (fun _ => False) V3).alloc (.cells #[.slice none 0 0, .slice none 0 0] 28)
          have nf := tree_new V3
          have lt_ : V3.heap.size < (V3.alloc (.cells #[.slice none 0 0, .slice none 0 0] 28)).heap.size := by simp
          refine hK.out _ (V3.alloc (.cells #[.slice none 0 0, .slice none 0 0] 28)) ?_ (fun hHeld => ?_)
          · exact TWO.out _ (keptFF K3.out k)
          clear hK K
          (try simp only [Act.put]); (try simp only [List.setIfInBounds_toArray]); (try simp only [List.set_cons_succ]); (try simp only [List.set_cons_zero])
          have NE1p : p1 ≠ V3.heap.size := fun e => by have h1 := LT1.out; omega
          obtain ⟨V4, hV⟩ : ∃ V, V3.alloc (.cells #[.slice none 0 0, .slice none 0 0] 28) = V := ⟨_, rfl⟩
          obtain ⟨q, hb⟩ : ∃ s, V3.heap.size = s := ⟨_, rfl⟩
          rw [hV] at k nf lt_
          rw [hb] at nf lt_
          rw [hb] at NE1p
          have NE1 := Lib.hid NE1p
          clear NE1p
          try rw [hV]
          try rw [hb]
          try rw [hV] at hHeld
          have K4 := Lib.hid (keptFF K3.out k)
          have C1 := Lib.hid (show ∀ j u, (cellsN [⟨someS 2 1, Value.slice (some ⟨w17.heap.size, 0, none⟩) 1 1, (Fr.cons (someS 4 2) .nil .nil)⟩, ⟨someS 3 1, .slice none 0 0, .nil⟩])[j]? = some u → V4.cell? ⟨p1, j, none⟩ = some u from fun j u hu => k.cell (C1.out j u hu) (fun f => f))
          have LT1 := Lib.hid (show p1 < V4.heap.size from Nat.lt_of_lt_of_le LT1.out k.size)
          have OQ := Lib.hid nf
          have QN := Lib.hid (show ¬ q < wt.heap.size from fun h => by have h1 := K3.out.size; omega)
          clear k nf lt_ hV hb
          refine wpAnyH_ready (rs := [5]) (by kernel_rfl) (by simp) ?_
          refine AllReadyH.cons opAt5 (fun K hK => ?_) AllReadyH.nil
          go_simp
          have k := (Kept.refl (fun _ => False) V4).alloc (.cells (cellsN [⟨someS 1 0, .slice (some ⟨p1, 0, none⟩) 2 2, (Fr.cons (someS 2 1) (Fr.cons (someS 4 2) .nil .nil) (.cons (someS 3 1) .nil .nil))⟩]).toArray 39)
          have nf : ∀ j u, (cellsN [⟨someS 1 0, .slice (some ⟨p1, 0, none⟩) 2 2, (Fr.cons (someS 2 1) (Fr.cons (someS 4 2) .nil .nil) (.cons (someS 3 1) .nil .nil))⟩])[j]? = some u → (V4.alloc (.cells (cellsN [⟨someS 1 0, .slice (some ⟨p1, 0, none⟩) 2 2, (Fr.cons (someS 2 1) (Fr.cons (someS 4 2) .nil .nil) (.cons (someS 3 1) .nil .nil))⟩]).toArray 39)).cell? ⟨V4.heap.size, j, none⟩ = some u := fun j u hu => by have := World.news_of_block (heap_alloc_new V4 (.cells (cellsN [⟨someS 1 0, .slice (some ⟨p1, 0, none⟩) 2 2, (Fr.cons (someS 2 1) (Fr.cons (someS 4 2) .nil .nil) (.cons (someS 3 1) .nil .nil))⟩]).toArray 39)) j u (by simpa using hu); rwa [add_mid, Nat.zero_add] at this
          have lt_ : V4.heap.size < (V4.alloc (.cells (cellsN [⟨someS 1 0, .slice (some ⟨p1, 0, none⟩) 2 2, (Fr.cons (someS 2 1) (Fr.cons (someS 4 2) .nil .nil) (.cons (someS 3 1) .nil .nil))⟩]).toArray 39)).heap.size := by simp
          refine hK.out _ (V4.alloc (.cells (cellsN [⟨someS 1 0, .slice (some ⟨p1, 0, none⟩) 2 2, (Fr.cons (someS 2 1) (Fr.cons (someS 4 2) .nil .nil) (.cons (someS 3 1) .nil .nil))⟩]).toArray 39)) ?_ (fun hHeld => ?_)
          · exact TWO.out _ (keptFF K4.out k)
          clear hK K
          (try simp only [Act.put]); (try simp only [List.setIfInBounds_toArray]); (try simp only [List.set_cons_succ]); (try simp only [List.set_cons_zero])
          have NE2p : V4.heap.size ≠ q := fun e => by have h1 := own_lt OQ.out rfl; simp only at h1; omega
          obtain ⟨V5, hV⟩ : ∃ V, V4.alloc (.cells (cellsN [⟨someS 1 0, .slice (some ⟨p1, 0, none⟩) 2 2, (Fr.cons (someS 2 1) (Fr.cons (someS 4 2) .nil .nil) (.cons (someS 3 1) .nil .nil))⟩]).toArray 39) = V := ⟨_, rfl⟩
          obtain ⟨p2, hb⟩ : ∃ s, V4.heap.size = s := ⟨_, rfl⟩
          rw [hV] at k nf lt_
          rw [hb] at nf lt_
          rw [hb] at NE2p
          have NE2 := Lib.hid NE2p
          clear NE2p
          try rw [hV]
          try rw [hb]
          try rw [hV] at hHeld
          have K5 := Lib.hid (keptFF K4.out k)
          have C1 := Lib.hid (show ∀ j u, (cellsN [⟨someS 2 1, Value.slice (some ⟨w17.heap.size, 0, none⟩) 1 1, (Fr.cons (someS 4 2) .nil .nil)⟩, ⟨someS 3 1, .slice none 0 0, .nil⟩])[j]? = some u → V5.cell? ⟨p1, j, none⟩ = some u from fun j u hu => k.cell (C1.out j u hu) (fun f => f))
          have LT1 := Lib.hid (show p1 < V5.heap.size from Nat.lt_of_lt_of_le LT1.out k.size)
          have OQ := Lib.hid (own_keptS OQ.out k (fun _ _ f => f))
          have C2 := Lib.hid nf
          have LT2 := Lib.hid lt_
          clear k nf lt_ hV hb
          refine wpAnyH_take (i := 6) (v := ?_) opAt6 (by kernel_rfl) (by kernel_rfl) (by kernel_rfl) (fun _ _ _ h => h) (Or.inl ⟨by rfl, ?_⟩) hHeld ?_
          case refine_2 => (intro w hSw; (try dsimp only at hSw); go_simp; all_goals (with_reducible rfl))
          (try simp only [Act.put]); (try simp only [List.setIfInBounds_toArray]); (try simp only [List.set_cons_succ]); (try simp only [List.set_cons_zero])
          refine wpAnyH_ready (rs := [8]) (by kernel_rfl) (by simp) ?_
          refine AllReadyH.cons opAt8 (fun K hK => ?_) AllReadyH.nil
          have nf := thereN OQ.out
          refine step_store (by rfl) 28 _ _ (by rfl) q 0 [.slice (some ⟨p2, 0, none⟩) 1 1, .slice none 0 0] (by rfl) (by rfl) nf info28 (all_oneCell_toArray (fun v hv => by simp at hv; rcases hv with rfl | rfl <;> rfl)) ?_
          have KP := Kept.setCells (S := fun k => k = q) (fun _ => rfl) [Value.slice (some ⟨p2, 0, none⟩) 1 1, .slice none 0 0] 0 (Kept.refl (fun k => k = q) V5)
          have OQ2 := own_allN OQ.out [.slice (some ⟨p2, 0, none⟩) 1 1, .slice none 0 0] rfl
          have KW : Kept (fun _ => False) wt (V5.setCells q 0 [Value.slice (some ⟨p2, 0, none⟩) 1 1, .slice none 0 0]) := K5.out.trans KP (fun _ _ f => f) (fun k h e => QN.out (e ▸ h))
          refine hK.out _ (V5.setCells q 0 [Value.slice (some ⟨p2, 0, none⟩) 1 1, .slice none 0 0]) ?_ (fun hHeld => ?_)
          · exact TWO.out _ KW
          clear hK K
          (try simp only [Act.put]); (try simp only [List.setIfInBounds_toArray]); (try simp only [List.set_cons_succ]); (try simp only [List.set_cons_zero])
          refine wpAnyH_done (by kernel_rfl) ?_ _
          exact HC p1 p2 q _ ⟨fun j u hu => KP.cell (C1.out j u hu) NE1.out, fun j u hu => KP.cell (C2.out j u hu) NE2.out, ⟨own_cellN OQ2 (i := 0) rfl, own_cellN OQ2 (i := 1) rfl⟩, KW⟩
        refine AllReadyH.cons opAt7 (fun K hK => ?_) AllReadyH.nil
        go_simp
        have k := (Kept.refl (fun _ => False) V2).alloc (.cells #[.slice none 0 0, .slice none 0 0] 28)
        have nf := tree_new V2
        have lt_ : V2.heap.size < (V2.alloc (.cells #[.slice none 0 0, .slice none 0 0] 28)).heap.size := by simp
        refine hK.out _ (V2.alloc (.cells #[.slice none 0 0, .slice none 0 0] 28)) ?_ (fun hHeld => ?_)
        · exact TWO.out _ (keptFF K2.out k)
        clear hK K
        (try simp only [Act.put]); (try simp only [List.setIfInBounds_toArray]); (try simp only [List.set_cons_succ]); (try simp only [List.set_cons_zero])
        obtain ⟨V3, hV⟩ : ∃ V, V2.alloc (.cells #[.slice none 0 0, .slice none 0 0] 28) = V := ⟨_, rfl⟩
        obtain ⟨q, hb⟩ : ∃ s, V2.heap.size = s := ⟨_, rfl⟩
        rw [hV] at k nf lt_
        rw [hb] at nf lt_
        try rw [hV]
        try rw [hb]
        try rw [hV] at hHeld
        have K3 := Lib.hid (keptFF K2.out k)
        have OQ := Lib.hid nf
        have QN := Lib.hid (show ¬ q < wt.heap.size from fun h => by have h1 := K2.out.size; omega)
        clear k nf lt_ hV hb
        refine wpAnyH_ready (rs := [3]) (by kernel_rfl) (by simp) ?_
        refine AllReadyH.cons opAt3 (fun K hK => ?_) AllReadyH.nil
        go_simp
        have k := (Kept.refl (fun _ => False) V3).alloc (.cells (cellsN [⟨someS 2 1, Value.slice (some ⟨w17.heap.size, 0, none⟩) 1 1, (Fr.cons (someS 4 2) .nil .nil)⟩, ⟨someS 3 1, .slice none 0 0, .nil⟩]).toArray 39)
        have nf : ∀ j u, (cellsN [⟨someS 2 1, Value.slice (some ⟨w17.heap.size, 0, none⟩) 1 1, (Fr.cons (someS 4 2) .nil .nil)⟩, ⟨someS 3 1, .slice none 0 0, .nil⟩])[j]? = some u → (V3.alloc (.cells (cellsN [⟨someS 2 1, Value.slice (some ⟨w17.heap.size, 0, none⟩) 1 1, (Fr.cons (someS 4 2) .nil .nil)⟩, ⟨someS 3 1, .slice none 0 0, .nil⟩]).toArray 39)).cell? ⟨V3.heap.size, j, none⟩ = some u := fun j u hu => by have := World.news_of_block (heap_alloc_new V3 (.cells (cellsN [⟨someS 2 1, Value.slice (some ⟨w17.heap.size, 0, none⟩) 1 1, (Fr.cons (someS 4 2) .nil .nil)⟩, ⟨someS 3 1, .slice none 0 0, .nil⟩]).toArray 39)) j u (by simpa using hu); rwa [add_mid, Nat.zero_add] at this
        have lt_ : V3.heap.size < (V3.alloc (.cells (cellsN [⟨someS 2 1, Value.slice (some ⟨w17.heap.size, 0, none⟩) 1 1, (Fr.cons (someS 4 2) .nil .nil)⟩, ⟨someS 3 1, .slice none 0 0, .nil⟩]).toArray 39)).heap.size := by simp
        refine hK.out _ (V3.alloc (.cells (cellsN [⟨someS 2 1, Value.slice (some ⟨w17.heap.size, 0, none⟩) 1 1, (Fr.cons (someS 4 2) .nil .nil)⟩, ⟨someS 3 1, .slice none 0 0, .nil⟩]).toArray 39)) ?_ (fun hHeld => ?_)
        · exact TWO.out _ (keptFF K3.out k)
        clear hK K
        (try simp only [Act.put]); (try simp only [List.setIfInBounds_toArray]); (try simp only [List.set_cons_succ]); (try simp only [List.set_cons_zero])
        have NE1p : V3.heap.size ≠ q := fun e => by have h1 := own_lt OQ.out rfl; simp only at h1; omega
        obtain ⟨V4, hV⟩ : ∃ V, V3.alloc (.cells (cellsN [⟨someS 2 1, Value.slice (some ⟨w17.heap.size, 0, none⟩) 1 1, (Fr.cons (someS 4 2) .nil .nil)⟩, ⟨someS 3 1, .slice none 0 0, .nil⟩]).toArray 39) = V := ⟨_, rfl⟩
        obtain ⟨p1, hb⟩ : ∃ s, V3.heap.size = s := ⟨_, rfl⟩
        rw [hV] at k nf lt_
        rw [hb] at nf lt_
        rw [hb] at NE1p
        have NE1 := Lib.hid NE1p
        clear NE1p
        try rw [hV]
        try rw [hb]
        try rw [hV] at hHeld
        have K4 := Lib.hid (keptFF K3.out k)
        have OQ := Lib.hid (own_keptS OQ.out k (fun _ _ f => f))
        have C1 := Lib.hid nf
        have LT1 := Lib.hid lt_
        clear k nf lt_ hV hb
        refine wpAnyH_take (i := 4) (v := ?_) opAt4 (by kernel_rfl) (by kernel_rfl) (by kernel_rfl) (fun _ _ _ h => h) (Or.inl ⟨by rfl, ?_⟩) hHeld ?_
        case refine_2 => (intro w hSw; (try dsimp only at hSw); go_simp; all_goals (with_reducible rfl))
        (try simp only [Act.put]); (try simp only [List.setIfInBounds_toArray]); (try simp only [List.set_cons_succ]); (try simp only [List.set_cons_zero])
        refine wpAnyH_ready (rs := [5]) (by kernel_rfl) (by simp) ?_
        refine AllReadyH.cons opAt5 (fun K hK => ?_) AllReadyH.nil
        go_simp
        have k := (Kept.refl (fun _ => False) V4).alloc (.cells (cellsN [⟨someS 1 0, .slice (some ⟨p1, 0, none⟩) 2 2, (Fr.cons (someS 2 1) (Fr.cons (someS 4 2) .nil .nil) (.cons (someS 3 1) .nil .nil))⟩]).toArray 39)
        have nf : ∀ j u, (cellsN [⟨someS 1 0, .slice (some ⟨p1, 0, none⟩) 2 2, (Fr.cons (someS 2 1) (Fr.cons (someS 4 2) .nil .nil) (.cons (someS 3 1) .nil .nil))⟩])[j]? = some u → (V4.alloc (.cells (cellsN [⟨someS 1 0, .slice (some ⟨p1, 0, none⟩) 2 2, (Fr.cons (someS 2 1) (Fr.cons (someS 4 2) .nil .nil) (.cons (someS 3 1) .nil .nil))⟩]).toArray 39)).cell? ⟨V4.heap.size, j, none⟩ = some u := fun j u hu => by have := World.news_of_block (heap_alloc_new V4 (.cells (cellsN [⟨someS 1 0, .slice (some ⟨p1, 0, none⟩) 2 2, (Fr.cons (someS 2 1) (Fr.cons (someS 4 2) .nil .nil) (.cons (someS 3 1) .nil .nil))⟩]).toArray 39)) j u (by simpa using hu); rwa [add_mid, Nat.zero_add] at this
        have lt_ : V4.heap.size < (V4.alloc (.cells (cellsN [⟨someS 1 0, .slice (some ⟨p1, 0, none⟩) 2 2, (Fr.cons (someS 2 1) (Fr.cons (someS 4 2) .nil .nil) (.cons (someS 3 1) .nil .nil))⟩]).toArray 39)).heap.size := by simp
        refine hK.out _ (V4.alloc (.cells (cellsN [⟨someS 1 0, .slice (some ⟨p1, 0, none⟩) 2 2, (Fr.cons (someS 2 1) (Fr.cons (someS 4 2) .nil .nil) (.cons (someS 3 1) .nil .nil))⟩]).toArray 39)) ?_ (fun hHeld => ?_)
        · exact TWO.out _ (keptFF K4.out k)
        clear hK K
        (try simp only [Act.put]); (try simp only [List.setIfInBounds_toArray]); (try simp only [List.set_cons_succ]); (try simp only [List.set_cons_zero])
        have NE2p : V4.heap.size ≠ q := fun e => by have h1 := own_lt OQ.out rfl; simp only at h1; omega
        obtain ⟨V5, hV⟩ : ∃ V, V4.alloc (.cells (cellsN [⟨someS 1 0, .slice (some ⟨p1, 0, none⟩) 2 2, (Fr.cons (someS 2 1) (Fr.cons (someS 4 2) .nil .nil) (.cons (someS 3 1) .nil .nil))⟩]).toArray 39) = V := ⟨_, rfl⟩
        obtain ⟨p2, hb⟩ : ∃ s, V4.heap.size = s := ⟨_, rfl⟩
        rw [hV] at k nf lt_
        rw [hb] at nf lt_
        rw [hb] at NE2p
        have NE2 := Lib.hid NE2p
        clear NE2p
        try rw [hV]
        try rw [hb]
        try rw [hV] at hHeld
        have K5 := Lib.hid (keptFF K4.out k)
        have C1 := Lib.hid (show ∀ j u, (cellsN [⟨someS 2 1, Value.slice (some ⟨w17.heap.size, 0, none⟩) 1 1, (Fr.cons (someS 4 2) .nil .nil)⟩, ⟨someS 3 1, .slice none 0 0, .nil⟩])[j]? = some u → V5.cell? ⟨p1, j, none⟩ = some u from fun j u hu => k.cell (C1.out j u hu) (fun f => f))
        have LT1 := Lib.hid (show p1 < V5.heap.size from Nat.lt_of_lt_of_le LT1.out k.size)
        have OQ := Lib.hid (own_keptS OQ.out k (fun _ _ f => f))
        have C2 := Lib.hid nf
        have LT2 := Lib.hid lt_
        clear k nf lt_ hV hb
        refine wpAnyH_take (i := 6) (v := ?_) opAt6 (by kernel_rfl) (by kernel_rfl) (by kernel_rfl) (fun _ _ _ h => h) (Or.inl ⟨by rfl, ?_⟩) hHeld ?_
        case refine_2 => (intro w hSw; (try dsimp only at hSw); go_simp; all_goals (with_reducible rfl))
        (try simp only [Act.put]); (try simp only [List.setIfInBounds_toArray]); (try simp only [List.set_cons_succ]); (try simp only [List.set_cons_zero])
        refine wpAnyH_ready (rs := [8]) (by kernel_rfl) (by simp) ?_
        refine AllReadyH.cons opAt8 (fun K hK => ?_) AllReadyH.nil
        have nf := thereN OQ.out
        refine step_store (by rfl) 28 _ _ (by rfl) q 0 [.slice (some ⟨p2, 0, none⟩) 1 1, .slice none 0 0] (by rfl) (by rfl) nf info28 (all_oneCell_toArray (fun v hv => by simp at hv; rcases hv with rfl | rfl <;> rfl)) ?_
        have KP := Kept.setCells (S := fun k => k = q) (fun _ => rfl) [Value.slice (some ⟨p2, 0, none⟩) 1 1, .slice none 0 0] 0 (Kept.refl (fun k => k = q) V5)
        have OQ2 := own_allN OQ.out [.slice (some ⟨p2, 0, none⟩) 1 1, .slice none 0 0] rfl
        have KW : Kept (fun _ => False) wt (V5.setCells q 0 [Value.slice (some ⟨p2, 0, none⟩) 1 1, .slice none 0 0]) := K5.out.trans KP (fun _ _ f => f) (fun k h e => QN.out (e ▸ h))
        refine hK.out _ (V5.setCells q 0 [Value.slice (some ⟨p2, 0, none⟩) 1 1, .slice none 0 0]) ?_ (fun hHeld => ?_)
        · exact TWO.out _ KW
        clear hK K
        (try simp only [Act.put]); (try simp only [List.setIfInBounds_toArray]); (try simp only [List.set_cons_succ]); (try simp only [List.set_cons_zero])
        refine wpAnyH_done (by kernel_rfl) ?_ _
        exact HC p1 p2 q _ ⟨fun j u hu => KP.cell (C1.out j u hu) NE1.out, fun j u hu => KP.cell (C2.out j u hu) NE2.out, ⟨own_cellN OQ2 (i := 0) rfl, own_cellN OQ2 (i := 1) rfl⟩, KW⟩
      refine AllReadyH.cons opAt7 (fun K hK => ?_) AllReadyH.nil
      go_simp
      have k := (Kept.refl (fun _ => False) V1).alloc (.cells #[.slice none 0 0, .slice none 0 0] 28)
      have nf := tree_new V1
      have lt_ : V1.heap.size < (V1.alloc (.cells #[.slice none 0 0, .slice none 0 0] 28)).heap.size := by simp
      refine hK.out _ (V1.alloc (.cells #[.slice none 0 0, .slice none 0 0] 28)) ?_ (fun hHeld => ?_)
      · exact TWO.out _ (keptFF K1.out k)
      clear hK K
      (try simp only [Act.put]); (try simp only [List.setIfInBounds_toArray]); (try simp only [List.set_cons_succ]); (try simp only [List.set_cons_zero])
      obtain ⟨V2, hV⟩ : ∃ V, V1.alloc (.cells #[.slice none 0 0, .slice none 0 0] 28) = V := ⟨_, rfl⟩
      obtain ⟨q, hb⟩ : ∃ s, V1.heap.size = s := ⟨_, rfl⟩
      rw [hV] at k nf lt_
      rw [hb] at nf lt_
      try rw [hV]
      try rw [hb]
      try rw [hV] at hHeld
      have K2 := Lib.hid (keptFF K1.out k)
      have OQ := Lib.hid nf
      have QN := Lib.hid (show ¬ q < wt.heap.size from fun h => by have h1 := K1.out.size; omega)
      clear k nf lt_ hV hb
      refine wpAnyH_ready (rs := [2]) (by kernel_rfl) (by simp) ?_
      refine AllReadyH.cons opAt2 (fun K hK => ?_) AllReadyH.nil
      go_simp
      go_at_call 28
      refine (leaf_any _ 3 1).mono ?_
      rintro e V3 ⟨rfl, k⟩
      dsimp only
      have K3 := Lib.hid (keptFF K2.out k)
      have OQ := Lib.hid (own_keptS OQ.out k (fun _ _ f => f))
      clear k
      refine hK.out _ _ ?_ (fun hHeld => ?_)
      · exact TWO.out _ K3.out
      clear hK K
      (try simp only [Act.put]); (try simp only [List.setIfInBounds_toArray]); (try simp only [List.set_cons_succ]); (try simp only [List.set_cons_zero])
      refine wpAnyH_ready (rs := [3]) (by kernel_rfl) (by simp) ?_
      refine AllReadyH.cons opAt3 (fun K hK => ?_) AllReadyH.nil
      go_simp
      have k := (Kept.refl (fun _ => False) V3).alloc (.cells (cellsN [⟨someS 2 1, Value.slice (some ⟨w17.heap.size, 0, none⟩) 1 1, (Fr.cons (someS 4 2) .nil .nil)⟩, ⟨someS 3 1, .slice none 0 0, .nil⟩]).toArray 39)
      have nf : ∀ j u, (cellsN [⟨someS 2 1, Value.slice (some ⟨w17.heap.size, 0, none⟩) 1 1, (Fr.cons (someS 4 2) .nil .nil)⟩, ⟨someS 3 1, .slice none 0 0, .nil⟩])[j]? = some u → (V3.alloc (.cells (cellsN [⟨someS 2 1, Value.slice (some ⟨w17.heap.size, 0, none⟩) 1 1, (Fr.cons (someS 4 2) .nil .nil)⟩, ⟨someS 3 1, .slice none 0 0, .nil⟩]).toArray 39)).cell? ⟨V3.heap.size, j, none⟩ = some u := fun j u hu => by have := World.news_of_block (heap_alloc_new V3 (.cells (cellsN [⟨someS 2 1, Value.slice (some ⟨w17.heap.size, 0, none⟩) 1 1, (Fr.cons (someS 4 2) .nil .nil)⟩, ⟨someS 3 1, .slice none 0 0, .nil⟩]).toArray 39)) j u (by simpa using hu); rwa [add_mid, Nat.zero_add] at this
      have lt_ : V3.heap.size < (V3.alloc (.cells (cellsN [⟨someS 2 1, Value.slice (some ⟨w17.heap.size, 0, none⟩) 1 1, (Fr.cons (someS 4 2) .nil .nil)⟩, ⟨someS 3 1, .slice none 0 0, .nil⟩]).toArray 39)).heap.size := by simp
      refine hK.out _ (V3.alloc (.cells (cellsN [⟨someS 2 1, Value.slice (some ⟨w17.heap.size, 0, none⟩) 1 1, (Fr.cons (someS 4 2) .nil .nil)⟩, ⟨someS 3 1, .slice none 0 0, .nil⟩]).toArray 39)) ?_ (fun hHeld => ?_)
      · exact TWO.out _ (keptFF K3.out k)
      clear hK K
      (try simp only [Act.put]); (try simp only [List.setIfInBounds_toArray]); (try simp only [List.set_cons_succ]); (try simp only [List.set_cons_zero])
      have NE1p : V3.heap.size ≠ q := fun e => by have h1 := own_lt OQ.out rfl; simp only at h1; omega
      obtain ⟨V4, hV⟩ : ∃ V, V3.alloc (.cells (cellsN [⟨someS 2 1, Value.slice (some ⟨w17.heap.size, 0, none⟩) 1 1, (Fr.cons (someS 4 2) .nil .nil)⟩, ⟨someS 3 1, .slice none 0 0, .nil⟩]).toArray 39) = V := ⟨_, rfl⟩
      obtain ⟨p1, hb⟩ : ∃ s, V3.heap.size = s := ⟨_, rfl⟩
      rw [hV] at k nf lt_
      rw [hb] at nf lt_
      rw [hb] at NE1p
      have NE1 := Lib.hid NE1p
      clear NE1p
      try rw [hV]
      try rw [hb]
      try rw [hV] at hHeld
      have K4 := Lib.hid (keptFF K3.out k)
      have OQ := Lib.hid (own_keptS OQ.out k (fun _ _ f => f))
      have C1 := Lib.hid nf
      have LT1 := Lib.hid lt_
      clear k nf lt_ hV hb
      refine wpAnyH_take (i := 4) (v := ?_) opAt4 (by kernel_rfl) (by kernel_rfl) (by kernel_rfl) (fun _ _ _ h => h) (Or.inl ⟨by rfl, ?_⟩) hHeld ?_
      case refine_2 => (intro w hSw; (try dsimp only at hSw); go_simp; all_goals (with_reducible rfl))
      (try simp only [Act.put]); (try simp only [List.setIfInBounds_toArray]); (try simp only [List.set_cons_succ]); (try simp only [List.set_cons_zero])
      refine wpAnyH_ready (rs := [5]) (by kernel_rfl) (by simp) ?_
      refine AllReadyH.cons opAt5 (fun K hK => ?_) AllReadyH.nil
      go_simp
      have k := (Kept.refl (fun _ => False) V4).alloc (.cells (cellsN [⟨someS 1 0, .slice (some ⟨p1, 0, none⟩) 2 2, (Fr.cons (someS 2 1) (Fr.cons (someS 4 2) .nil .nil) (.cons (someS 3 1) .nil .nil))⟩]).toArray 39)
      have nf : ∀ j u, (cellsN [⟨someS 1 0, .slice (some ⟨p1, 0, none⟩) 2 2, (Fr.cons (someS 2 1) (Fr.cons (someS 4 2) .nil .nil) (.cons (someS 3 1) .nil .nil))⟩])[j]? = some u → (V4.alloc (.cells (cellsN [⟨someS 1 0, .slice (some ⟨p1, 0, none⟩) 2 2, (Fr.cons (someS 2 1) (Fr.cons (someS 4 2) .nil .nil) (.cons (someS 3 1) .nil .nil))⟩]).toArray 39)).cell? ⟨V4.heap.size, j, none⟩ = some u := fun j u hu => by have := World.news_of_block (heap_alloc_new V4 (.cells (cellsN [⟨someS 1 0, .slice (some ⟨p1, 0, none⟩) 2 2, (Fr.cons (someS 2 1) (Fr.cons (someS 4 2) .nil .nil) (.cons (someS 3 1) .nil .nil))⟩]).toArray 39)) j u (by simpa using hu); rwa [add_mid, Nat.zero_add] at this
      have lt_ : V4.heap.size < (V4.alloc (.cells (cellsN [⟨someS 1 0, .slice (some ⟨p1, 0, none⟩) 2 2, (Fr.cons (someS 2 1) (Fr.cons (someS 4 2) .nil .nil) (.cons (someS 3 1) .nil .nil))⟩]).toArray 39)).heap.size := by simp
      refine hK.out _ (V4.alloc (.cells (cellsN [⟨someS 1 0, .slice (some ⟨p1, 0, none⟩) 2 2, (Fr.cons (someS 2 1) (Fr.cons (someS 4 2) .nil .nil) (.cons (someS 3 1) .nil .nil))⟩]).toArray 39)) ?_ (fun hHeld => ?_)
      · exact TWO.out _ (keptFF K4.out k)
      clear hK K
      (try simp only [Act.put]); (try simp only [List.setIfInBounds_toArray]); (try simp only [List.set_cons_succ]); (try simp only [List.set_cons_zero])
      have NE2p : V4.heap.size ≠ q := fun e => by have h1 := own_lt OQ.out rfl; simp only at h1; omega
      obtain ⟨V5, hV⟩ : ∃ V, V4.alloc (.cells (cellsN [⟨someS 1 0, .slice (some ⟨p1, 0, none⟩) 2 2, (Fr.cons (someS 2 1) (Fr.cons (someS 4 2) .nil .nil) (.cons (someS 3 1) .nil .nil))⟩]).toArray 39) = V := ⟨_, rfl⟩
      obtain ⟨p2, hb⟩ : ∃ s, V4.heap.size = s := ⟨_, rfl⟩
      rw [hV] at k nf lt_
      rw [hb] at nf lt_
      rw [hb] at NE2p
      have NE2 := Lib.hid NE2p
      clear NE2p
      try rw [hV]
      try rw [hb]
      try rw [hV] at hHeld
      have K5 := Lib.hid (keptFF K4.out k)
      have C1 := Lib.hid (show ∀ j u, (cellsN [⟨someS 2 1, Value.slice (some ⟨w17.heap.size, 0, none⟩) 1 1, (Fr.cons (someS 4 2) .nil .nil)⟩, ⟨someS 3 1, .slice none 0 0, .nil⟩])[j]? = some u → V5.cell? ⟨p1, j, none⟩ = some u from fun j u hu => k.cell (C1.out j u hu) (fun f => f))
      have LT1 := Lib.hid (show p1 < V5.heap.size from Nat.lt_of_lt_of_le LT1.out k.size)
      have OQ := Lib.hid (own_keptS OQ.out k (fun _ _ f => f))
      have C2 := Lib.hid nf
      have LT2 := Lib.hid lt_
      clear k nf lt_ hV hb
      refine wpAnyH_take (i := 6) (v := ?_) opAt6 (by kernel_rfl) (by kernel_rfl) (by kernel_rfl) (fun _ _ _ h => h) (Or.inl ⟨by rfl, ?_⟩) hHeld ?_
      case refine_2 => (intro w hSw; (try dsimp only at hSw); go_simp; all_goals (with_reducible rfl))
      (try simp only [Act.put]); (try simp only [List.setIfInBounds_toArray]); (try simp only [List.set_cons_succ]); (try simp only [List.set_cons_zero])
      refine wpAnyH_ready (rs := [8]) (by kernel_rfl) (by simp) ?_
      refine AllReadyH.cons opAt8 (fun K hK => ?_) AllReadyH.nil
      have nf := thereN OQ.out
      refine step_store (by rfl) 28 _ _ (by rfl) q 0 [.slice (some ⟨p2, 0, none⟩) 1 1, .slice none 0 0] (by rfl) (by rfl) nf info28 (all_oneCell_toArray (fun v hv => by simp at hv; rcases hv with rfl | rfl <;> rfl)) ?_
      have KP := Kept.setCells (S := fun k => k = q) (fun _ => rfl) [Value.slice (some ⟨p2, 0, none⟩) 1 1, .slice none 0 0] 0 (Kept.refl (fun k => k = q) V5)
      have OQ2 := own_allN OQ.out [.slice (some ⟨p2, 0, none⟩) 1 1, .slice none 0 0] rfl
      have KW : Kept (fun _ => False) wt (V5.setCells q 0 [Value.slice (some ⟨p2, 0, none⟩) 1 1, .slice none 0 0]) := K5.out.trans KP (fun _ _ f => f) (fun k h e => QN.out (e ▸ h))
      refine hK.out _ (V5.setCells q 0 [Value.slice (some ⟨p2, 0, none⟩) 1 1, .slice none 0 0]) ?_ (fun hHeld => ?_)
      · exact TWO.out _ KW
      clear hK K
      (try simp only [Act.put]); (try simp only [List.setIfInBounds_toArray]); (try simp only [List.set_cons_succ]); (try simp only [List.set_cons_zero])
      refine wpAnyH_done (by kernel_rfl) ?_ _
      exact HC p1 p2 q _ ⟨fun j u hu => KP.cell (C1.out j u hu) NE1.out, fun j u hu => KP.cell (C2.out j u hu) NE2.out, ⟨own_cellN OQ2 (i := 0) rfl, own_cellN OQ2 (i := 1) rfl⟩, KW⟩
    refine AllReadyH.cons opAt7 (fun K hK => ?_) AllReadyH.nil
    go_simp
    have k := (Kept.refl (fun _ => False) V0).alloc (.cells #[.slice none 0 0, .slice none 0 0] 28)
    have nf := tree_new V0
    have lt_ : V0.heap.size < (V0.alloc (.cells #[.slice none 0 0, .slice none 0 0] 28)).heap.size := by simp
    refine hK.out _ (V0.alloc (.cells #[.slice none 0 0, .slice none 0 0] 28)) ?_ (fun hHeld => ?_)
    · exact TWO.out _ (keptFF K0.out k)
    clear hK K
    (try simp only [Act.put]); (try simp only [List.setIfInBounds_toArray]); (try simp only [List.set_cons_succ]); (try simp only [List.set_cons_zero])
    obtain ⟨V1, hV⟩ : ∃ V, V0.alloc (.cells #[.slice none 0 0, .slice none 0 0] 28) = V := ⟨_, rfl⟩
    obtain ⟨q, hb⟩ : ∃ s, V0.heap.size = s := ⟨_, rfl⟩
    rw [hV] at k nf lt_
    rw [hb] at nf lt_
    try rw [hV]
    try rw [hb]
    try rw [hV] at hHeld
    have K1 := Lib.hid (keptFF K0.out k)
    have OQ := Lib.hid nf
    have QN := Lib.hid (show ¬ q < wt.heap.size from fun h => by have h1 := K0.out.size; omega)
    clear k nf lt_ hV hb
    refine wpAnyH_ready (rs := [0]) (by kernel_rfl) (by simp) ?_
    refine AllReadyH.cons opAt0 (fun K hK => ?_) AllReadyH.nil
    go_simp
    go_at_call 21
    refine (some_any _ 1 0).mono ?_
    rintro e V2 ⟨rfl, k⟩
    dsimp only
    have K2 := Lib.hid (keptFF K1.out k)
    have OQ := Lib.hid (own_keptS OQ.out k (fun _ _ f => f))
    clear k
    refine hK.out _ _ ?_ (fun hHeld => ?_)
    · exact TWO.out _ K2.out
    clear hK K
    (try simp only [Act.put]); (try simp only [List.setIfInBounds_toArray]); (try simp only [List.set_cons_succ]); (try simp only [List.set_cons_zero])
    refine wpAnyH_ready (rs := [2]) (by kernel_rfl) (by simp) ?_
    refine AllReadyH.cons opAt2 (fun K hK => ?_) AllReadyH.nil
    go_simp
    go_at_call 28
    refine (leaf_any _ 3 1).mono ?_
    rintro e V3 ⟨rfl, k⟩
    dsimp only
    have K3 := Lib.hid (keptFF K2.out k)
    have OQ := Lib.hid (own_keptS OQ.out k (fun _ _ f => f))
    clear k
    refine hK.out _ _ ?_ (fun hHeld => ?_)
    · exact TWO.out _ K3.out
    clear hK K
    (try simp only [Act.put]); (try simp only [List.setIfInBounds_toArray]); (try simp only [List.set_cons_succ]); (try simp only [List.set_cons_zero])
    refine wpAnyH_ready (rs := [3]) (by kernel_rfl) (by simp) ?_
    refine AllReadyH.cons opAt3 (fun K hK => ?_) AllReadyH.nil
    go_simp
    have k := (Kept.refl (fun _ => False) V3).alloc (.cells (cellsN [⟨someS 2 1, Value.slice (some ⟨w17.heap.size, 0, none⟩) 1 1, (Fr.cons (someS 4 2) .nil .nil)⟩, ⟨someS 3 1, .slice none 0 0, .nil⟩]).toArray 39)
    have nf : ∀ j u, (cellsN [⟨someS 2 1, Value.slice (some ⟨w17.heap.size, 0, none⟩) 1 1, (Fr.cons (someS 4 2) .nil .nil)⟩, ⟨someS 3 1, .slice none 0 0, .nil⟩])[j]? = some u → (V3.alloc (.cells (cellsN [⟨someS 2 1, Value.slice (some ⟨w17.heap.size, 0, none⟩) 1 1, (Fr.cons (someS 4 2) .nil .nil)⟩, ⟨someS 3 1, .slice none 0 0, .nil⟩]).toArray 39)).cell? ⟨V3.heap.size, j, none⟩ = some u := fun j u hu => by have := World.news_of_block (heap_alloc_new V3 (.cells (cellsN [⟨someS 2 1, Value.slice (some ⟨w17.heap.size, 0, none⟩) 1 1, (Fr.cons (someS 4 2) .nil .nil)⟩, ⟨someS 3 1, .slice none 0 0, .nil⟩]).toArray 39)) j u (by simpa using hu); rwa [add_mid, Nat.zero_add] at this
    have lt_ : V3.heap.size < (V3.alloc (.cells (cellsN [⟨someS 2 1, Value.slice (some ⟨w17.heap.size, 0, none⟩) 1 1, (Fr.cons (someS 4 2) .nil .nil)⟩, ⟨someS 3 1, .slice none 0 0, .nil⟩]).toArray 39)).heap.size := by simp
    refine hK.out _ (V3.alloc (.cells (cellsN [⟨someS 2 1, Value.slice (some ⟨w17.heap.size, 0, none⟩) 1 1, (Fr.cons (someS 4 2) .nil .nil)⟩, ⟨someS 3 1, .slice none 0 0, .nil⟩]).toArray 39)) ?_ (fun hHeld => ?_)
    · exact TWO.out _ (keptFF K3.out k)
    clear hK K
    (try simp only [Act.put]); (try simp only [List.setIfInBounds_toArray]); (try simp only [List.set_cons_succ]); (try simp only [List.set_cons_zero])
    have NE1p : V3.heap.size ≠ q := fun e => by have h1 := own_lt OQ.out rfl; simp only at h1; omega
    obtain ⟨V4, hV⟩ : ∃ V, V3.alloc (.cells (cellsN [⟨someS 2 1, Value.slice (some ⟨w17.heap.size, 0, none⟩) 1 1, (Fr.cons (someS 4 2) .nil .nil)⟩, ⟨someS 3 1, .slice none 0 0, .nil⟩]).toArray 39) = V := ⟨_, rfl⟩
    obtain ⟨p1, hb⟩ : ∃ s, V3.heap.size = s := ⟨_, rfl⟩
    rw [hV] at k nf lt_
    rw [hb] at nf lt_
    rw [hb] at NE1p
    have NE1 := Lib.hid NE1p
    clear NE1p
    try rw [hV]
    try rw [hb]
    try rw [hV] at hHeld
    have K4 := Lib.hid (keptFF K3.out k)
    have OQ := Lib.hid (own_keptS OQ.out k (fun _ _ f => f))
    have C1 := Lib.hid nf
    have LT1 := Lib.hid lt_
    clear k nf lt_ hV hb
    refine wpAnyH_take (i := 4) (v := ?_) opAt4 (by kernel_rfl) (by kernel_rfl) (by kernel_rfl) (fun _ _ _ h => h) (Or.inl ⟨by rfl, ?_⟩) hHeld ?_
    case refine_2 => (intro w hSw; (try dsimp only at hSw); go_simp; all_goals (with_reducible rfl))
    (try simp only [Act.put]); (try simp only [List.setIfInBounds_toArray]); (try simp only [List.set_cons_succ]); (try simp only [List.set_cons_zero])
    refine wpAnyH_ready (rs := [5]) (by kernel_rfl) (by simp) ?_
    refine AllReadyH.cons opAt5 (fun K hK => ?_) AllReadyH.nil
    go_simp
    have k := (Kept.refl (fun _ => False) V4).alloc (.cells (cellsN [⟨someS 1 0, .slice (some ⟨p1, 0, none⟩) 2 2, (Fr.cons (someS 2 1) (Fr.cons (someS 4 2) .nil .nil) (.cons (someS 3 1) .nil .nil))⟩]).toArray 39)
    have nf : ∀ j u, (cellsN [⟨someS 1 0, .slice (some ⟨p1, 0, none⟩) 2 2, (Fr.cons (someS 2 1) (Fr.cons (someS 4 2) .nil .nil) (.cons (someS 3 1) .nil .nil))⟩])[j]? = some u → (V4.alloc (.cells (cellsN [⟨someS 1 0, .slice (some ⟨p1, 0, none⟩) 2 2, (Fr.cons (someS 2 1) (Fr.cons (someS 4 2) .nil .nil) (.cons (someS 3 1) .nil .nil))⟩]).toArray 39)).cell? ⟨V4.heap.size, j, none⟩ = some u := fun j u hu => by have := World.news_of_block (heap_alloc_new V4 (.cells (cellsN [⟨someS 1 0, .slice (some ⟨p1, 0, none⟩) 2 2, (Fr.cons (someS 2 1) (Fr.cons (someS 4 2) .nil .nil) (.cons (someS 3 1) .nil .nil))⟩]).toArray 39)) j u (by simpa using hu); rwa [add_mid, Nat.zero_add] at this
    have lt_ : V4.heap.size < (V4.alloc (.cells (cellsN [⟨someS 1 0, .slice (some ⟨p1, 0, none⟩) 2 2, (Fr.cons (someS 2 1) (Fr.cons (someS 4 2) .nil .nil) (.cons (someS 3 1) .nil .nil))⟩]).toArray 39)).heap.size := by simp
    refine hK.out _ (V4.alloc (.cells (cellsN [⟨someS 1 0, .slice (some ⟨p1, 0, none⟩) 2 2, (Fr.cons (someS 2 1) (Fr.cons (someS 4 2) .nil .nil) (.cons (someS 3 1) .nil .nil))⟩]).toArray 39)) ?_ (fun hHeld => ?_)
    · exact TWO.out _ (keptFF K4.out k)
    clear hK K
    (try simp only [Act.put]); (try simp only [List.setIfInBounds_toArray]); (try simp only [List.set_cons_succ]); (try simp only [List.set_cons_zero])
    have NE2p : V4.heap.size ≠ q := fun e => by have h1 := own_lt OQ.out rfl; simp only at h1; omega
    obtain ⟨V5, hV⟩ : ∃ V, V4.alloc (.cells (cellsN [⟨someS 1 0, .slice (some ⟨p1, 0, none⟩) 2 2, (Fr.cons (someS 2 1) (Fr.cons (someS 4 2) .nil .nil) (.cons (someS 3 1) .nil .nil))⟩]).toArray 39) = V := ⟨_, rfl⟩
    obtain ⟨p2, hb⟩ : ∃ s, V4.heap.size = s := ⟨_, rfl⟩
    rw [hV] at k nf lt_
    rw [hb] at nf lt_
    rw [hb] at NE2p
    have NE2 := Lib.hid NE2p
    clear NE2p
    try rw [hV]
    try rw [hb]
    try rw [hV] at hHeld
    have K5 := Lib.hid (keptFF K4.out k)
    have C1 := Lib.hid (show ∀ j u, (cellsN [⟨someS 2 1, Value.slice (some ⟨w17.heap.size, 0, none⟩) 1 1, (Fr.cons (someS 4 2) .nil .nil)⟩, ⟨someS 3 1, .slice none 0 0, .nil⟩])[j]? = some u → V5.cell? ⟨p1, j, none⟩ = some u from fun j u hu => k.cell (C1.out j u hu) (fun f => f))
    have LT1 := Lib.hid (show p1 < V5.heap.size from Nat.lt_of_lt_of_le LT1.out k.size)
    have OQ := Lib.hid (own_keptS OQ.out k (fun _ _ f => f))
    have C2 := Lib.hid nf
    have LT2 := Lib.hid lt_
    clear k nf lt_ hV hb
    refine wpAnyH_take (i := 6) (v := ?_) opAt6 (by kernel_rfl) (by kernel_rfl) (by kernel_rfl) (fun _ _ _ h => h) (Or.inl ⟨by rfl, ?_⟩) hHeld ?_
    case refine_2 => (intro w hSw; (try dsimp only at hSw); go_simp; all_goals (with_reducible rfl))
    (try simp only [Act.put]); (try simp only [List.setIfInBounds_toArray]); (try simp only [List.set_cons_succ]); (try simp only [List.set_cons_zero])
    refine wpAnyH_ready (rs := [8]) (by kernel_rfl) (by simp) ?_
    refine AllReadyH.cons opAt8 (fun K hK => ?_) AllReadyH.nil
    have nf := thereN OQ.out
    refine step_store (by rfl) 28 _ _ (by rfl) q 0 [.slice (some ⟨p2, 0, none⟩) 1 1, .slice none 0 0] (by rfl) (by rfl) nf info28 (all_oneCell_toArray (fun v hv => by simp at hv; rcases hv with rfl | rfl <;> rfl)) ?_
    have KP := Kept.setCells (S := fun k => k = q) (fun _ => rfl) [Value.slice (some ⟨p2, 0, none⟩) 1 1, .slice none 0 0] 0 (Kept.refl (fun k => k = q) V5)
    have OQ2 := own_allN OQ.out [.slice (some ⟨p2, 0, none⟩) 1 1, .slice none 0 0] rfl
    have KW : Kept (fun _ => False) wt (V5.setCells q 0 [Value.slice (some ⟨p2, 0, none⟩) 1 1, .slice none 0 0]) := K5.out.trans KP (fun _ _ f => f) (fun k h e => QN.out (e ▸ h))
    refine hK.out _ (V5.setCells q 0 [Value.slice (some ⟨p2, 0, none⟩) 1 1, .slice none 0 0]) ?_ (fun hHeld => ?_)
    · exact TWO.out _ KW
    clear hK K
    (try simp only [Act.put]); (try simp only [List.setIfInBounds_toArray]); (try simp only [List.set_cons_succ]); (try simp only [List.set_cons_zero])
    refine wpAnyH_done (by kernel_rfl) ?_ _
    exact HC p1 p2 q _ ⟨fun j u hu => KP.cell (C1.out j u hu) NE1.out, fun j u hu => KP.cell (C2.out j u hu) NE2.out, ⟨own_cellN OQ2 (i := 0) rfl, own_cellN OQ2 (i := 1) rfl⟩, KW⟩
  case h2 =>
    rintro p1 p2 q wu ⟨c1, c2, v5, k⟩
    have HF := Lib.hid (fun w' (k' : Kept (fun _ => False) wu w') => HF.out w' (keptFF k k'))
    have nf : ReadsF T1 wu (.slice (some ⟨p2, 0, none⟩) 1 1) Xa := ⟨_, _, rfl, .inr ⟨p2, 0, rfl, rowF_of trivial [⟨someS 1 0, .slice (some ⟨p1, 0, none⟩) 2 2, (Fr.cons (someS 2 1) (Fr.cons (someS 4 2) .nil .nil) (.cons (someS 3 1) .nil .nil))⟩] 0 (fun x hx => by simp at hx; subst hx; exact ⟨_, _, rfl, .inr ⟨p1, 0, rfl, rowF_of trivial [⟨someS 2 1, Value.slice (some ⟨w17.heap.size, 0, none⟩) 1 1, (Fr.cons (someS 4 2) .nil .nil)⟩, ⟨someS 3 1, .slice none 0 0, .nil⟩] 0 (fun y hy => by simp at hy; rcases hy with rfl | rfl; (· exact (HF.out wu (Kept.refl _ _)).2.1); (· exact ⟨none, 0, rfl, .inl rfl⟩)) (fun j u hu => by rw [Nat.zero_add]; exact c1 j u hu)⟩⟩) (fun j u hu => by rw [Nat.zero_add]; exact c2 j u hu)⟩⟩
    have HF := Lib.hid (fun w' (k' : Kept (fun _ => False) wu w') => And.intro (show ReadsF T1 w' (.slice (some ⟨p2, 0, none⟩) 1 1) Xa from nf.kept k') (HF.out w' k'))
    clear nf
    have nf : wu.cell? ⟨q, 0, none⟩ = some (.slice (some ⟨p2, 0, none⟩) 1 1) ∧ wu.cell? ⟨q, 1, none⟩ = some (.slice none 0 0) := v5
    have HF := Lib.hid (fun w' (k' : Kept (fun _ => False) wu w') => And.intro (show w'.cell? ⟨q, 0, none⟩ = some (.slice (some ⟨p2, 0, none⟩) 1 1) ∧ w'.cell? ⟨q, 1, none⟩ = some (.slice none 0 0) from ⟨k'.cell nf.1 (fun f => f), k'.cell nf.2 (fun f => f)⟩) (HF.out w' k'))
    clear nf
    clear c1 c2 v5 k
    go_wp2_with fail
    refine (leaf_any _ 1 0).mono ?_
    rintro e w41 ⟨rfl, k⟩
    have HF := Lib.hid (fun w' (k' : Kept (fun _ => False) w41 w') => HF.out w' (keptFF k k'))
    clear k
    have kq := (Kept.refl (fun _ => False) w41).alloc (.cells (cellsN [⟨someS 1 0, .slice none 0 0, .nil⟩]).toArray 39)
    have nf : ReadsF T1 (w41.alloc (.cells (cellsN [⟨someS 1 0, .slice none 0 0, .nil⟩]).toArray 39)) (.slice (some ⟨w41.heap.size, 0, none⟩) 1 1) (Fr.cons (someS 1 0) .nil .nil) := readsF_new' w41 (w41.heap.size) (by simp) [⟨someS 1 0, .slice none 0 0, .nil⟩] (fun x hx => by simp at hx; subst hx; exact ⟨none, 0, rfl, .inl rfl⟩)
    have HF := Lib.hid (fun w' (k' : Kept (fun _ => False) (w41.alloc (.cells (cellsN [⟨someS 1 0, .slice none 0 0, .nil⟩]).toArray 39)) w') => And.intro (show ReadsF T1 w' (.slice (some ⟨w41.heap.size, 0, none⟩) 1 1) (Fr.cons (someS 1 0) .nil .nil) from nf.kept k') (HF.out w' (keptFF kq k')))
    clear kq nf
    go_wp2_with fail
    refine (some_any _ 5 9).mono ?_
    rintro e w42 ⟨rfl, k⟩
    have HF := Lib.hid (fun w' (k' : Kept (fun _ => False) w42 w') => HF.out w' (keptFF k k'))
    clear k
    go_wp2_with fail
    refine (leaf_any _ 6 5).mono ?_
    rintro e w43 ⟨rfl, k⟩
    have HF := Lib.hid (fun w' (k' : Kept (fun _ => False) w43 w') => HF.out w' (keptFF k k'))
    clear k
    have kq := (Kept.refl (fun _ => False) w43).alloc (.cells (cellsN [⟨someS 6 5, .slice none 0 0, .nil⟩]).toArray 39)
    have nf : ReadsF T1 (w43.alloc (.cells (cellsN [⟨someS 6 5, .slice none 0 0, .nil⟩]).toArray 39)) (.slice (some ⟨w43.heap.size, 0, none⟩) 1 1) (Fr.cons (someS 6 5) .nil .nil) := readsF_new' w43 (w43.heap.size) (by simp) [⟨someS 6 5, .slice none 0 0, .nil⟩] (fun x hx => by simp at hx; subst hx; exact ⟨none, 0, rfl, .inl rfl⟩)
    have HF := Lib.hid (fun w' (k' : Kept (fun _ => False) (w43.alloc (.cells (cellsN [⟨someS 6 5, .slice none 0 0, .nil⟩]).toArray 39)) w') => And.intro (show ReadsF T1 w' (.slice (some ⟨w43.heap.size, 0, none⟩) 1 1) (Fr.cons (someS 6 5) .nil .nil) from nf.kept k') (HF.out w' (keptFF kq k')))
    clear kq nf
    go_wp2_with fail
    refine (some_any _ 7 8).mono ?_
    rintro e w44 ⟨rfl, k⟩
    have HF := Lib.hid (fun w' (k' : Kept (fun _ => False) w44 w') => HF.out w' (keptFF k k'))
    clear k
    go_wp2_with fail
    refine (leaf_any _ 8 7).mono ?_
    rintro e w45 ⟨rfl, k⟩
    have HF := Lib.hid (fun w' (k' : Kept (fun _ => False) w45 w') => HF.out w' (keptFF k k'))
    clear k
    have kq := (Kept.refl (fun _ => False) w45).alloc (.cells (cellsN [⟨someS 8 7, .slice none 0 0, .nil⟩]).toArray 39)
    have nf : ReadsF T1 (w45.alloc (.cells (cellsN [⟨someS 8 7, .slice none 0 0, .nil⟩]).toArray 39)) (.slice (some ⟨w45.heap.size, 0, none⟩) 1 1) (Fr.cons (someS 8 7) .nil .nil) := readsF_new' w45 (w45.heap.size) (by simp) [⟨someS 8 7, .slice none 0 0, .nil⟩] (fun x hx => by simp at hx; subst hx; exact ⟨none, 0, rfl, .inl rfl⟩)
    have HF := Lib.hid (fun w' (k' : Kept (fun _ => False) (w45.alloc (.cells (cellsN [⟨someS 8 7, .slice none 0 0, .nil⟩]).toArray 39)) w') => And.intro (show ReadsF T1 w' (.slice (some ⟨w45.heap.size, 0, none⟩) 1 1) (Fr.cons (someS 8 7) .nil .nil) from nf.kept k') (HF.out w' (keptFF kq k')))
    clear kq nf
    have kq := (Kept.refl (fun _ => False) (w45.alloc (.cells (cellsN [⟨someS 8 7, .slice none 0 0, .nil⟩]).toArray 39))).alloc (.cells (cellsN [⟨someS 5 9, Value.slice (some ⟨w43.heap.size, 0, none⟩) 1 1, Fr.cons (someS 6 5) .nil .nil⟩, ⟨someS 7 8, Value.slice (some ⟨w45.heap.size, 0, none⟩) 1 1, Fr.cons (someS 8 7) .nil .nil⟩]).toArray 39)
    have nf : ReadsF T1 ((w45.alloc (.cells (cellsN [⟨someS 8 7, .slice none 0 0, .nil⟩]).toArray 39)).alloc (.cells (cellsN [⟨someS 5 9, Value.slice (some ⟨w43.heap.size, 0, none⟩) 1 1, Fr.cons (someS 6 5) .nil .nil⟩, ⟨someS 7 8, Value.slice (some ⟨w45.heap.size, 0, none⟩) 1 1, Fr.cons (someS 8 7) .nil .nil⟩]).toArray 39)) (.slice (some ⟨w45.heap.size + 1, 0, none⟩) 2 2) Yo := readsF_new' (w45.alloc (.cells (cellsN [⟨someS 8 7, .slice none 0 0, .nil⟩]).toArray 39)) (w45.heap.size + 1) (by simp) [⟨someS 5 9, Value.slice (some ⟨w43.heap.size, 0, none⟩) 1 1, Fr.cons (someS 6 5) .nil .nil⟩, ⟨someS 7 8, Value.slice (some ⟨w45.heap.size, 0, none⟩) 1 1, Fr.cons (someS 8 7) .nil .nil⟩] (fun x hx => by simp at hx; rcases hx with rfl | rfl; (· exact (HF.out (w45.alloc (.cells (cellsN [⟨someS 8 7, .slice none 0 0, .nil⟩]).toArray 39)) (Kept.refl _ _)).2.1); (· exact (HF.out (w45.alloc (.cells (cellsN [⟨someS 8 7, .slice none 0 0, .nil⟩]).toArray 39)) (Kept.refl _ _)).1))
    have HF := Lib.hid (fun w' (k' : Kept (fun _ => False) ((w45.alloc (.cells (cellsN [⟨someS 8 7, .slice none 0 0, .nil⟩]).toArray 39)).alloc (.cells (cellsN [⟨someS 5 9, Value.slice (some ⟨w43.heap.size, 0, none⟩) 1 1, Fr.cons (someS 6 5) .nil .nil⟩, ⟨someS 7 8, Value.slice (some ⟨w45.heap.size, 0, none⟩) 1 1, Fr.cons (someS 8 7) .nil .nil⟩]).toArray 39)) w') => And.intro (show ReadsF T1 w' (.slice (some ⟨w45.heap.size + 1, 0, none⟩) 2 2) Yo from nf.kept k') (HF.out w' (keptFF kq k')))
    clear kq nf
    have kq := (Kept.refl (fun _ => False) ((w45.alloc (.cells (cellsN [⟨someS 8 7, .slice none 0 0, .nil⟩]).toArray 39)).alloc (.cells (cellsN [⟨someS 5 9, Value.slice (some ⟨w43.heap.size, 0, none⟩) 1 1, Fr.cons (someS 6 5) .nil .nil⟩, ⟨someS 7 8, Value.slice (some ⟨w45.heap.size, 0, none⟩) 1 1, Fr.cons (someS 8 7) .nil .nil⟩]).toArray 39))).alloc (.cells #[Value.slice (some ⟨w41.heap.size, 0, none⟩) 1 1, Value.slice (some ⟨w45.heap.size + 1, 0, none⟩) 2 2] 28)
    have nf : (((w45.alloc (.cells (cellsN [⟨someS 8 7, .slice none 0 0, .nil⟩]).toArray 39)).alloc (.cells (cellsN [⟨someS 5 9, Value.slice (some ⟨w43.heap.size, 0, none⟩) 1 1, Fr.cons (someS 6 5) .nil .nil⟩, ⟨someS 7 8, Value.slice (some ⟨w45.heap.size, 0, none⟩) 1 1, Fr.cons (someS 8 7) .nil .nil⟩]).toArray 39)).alloc (.cells #[Value.slice (some ⟨w41.heap.size, 0, none⟩) 1 1, Value.slice (some ⟨w45.heap.size + 1, 0, none⟩) 2 2] 28)).cell? ⟨w45.heap.size + 1 + 1, 0, none⟩ = some (Value.slice (some ⟨w41.heap.size, 0, none⟩) 1 1) ∧ (((w45.alloc (.cells (cellsN [⟨someS 8 7, .slice none 0 0, .nil⟩]).toArray 39)).alloc (.cells (cellsN [⟨someS 5 9, Value.slice (some ⟨w43.heap.size, 0, none⟩) 1 1, Fr.cons (someS 6 5) .nil .nil⟩, ⟨someS 7 8, Value.slice (some ⟨w45.heap.size, 0, none⟩) 1 1, Fr.cons (someS 8 7) .nil .nil⟩]).toArray 39)).alloc (.cells #[Value.slice (some ⟨w41.heap.size, 0, none⟩) 1 1, Value.slice (some ⟨w45.heap.size + 1, 0, none⟩) 2 2] 28)).cell? ⟨w45.heap.size + 1 + 1, 1, none⟩ = some (Value.slice (some ⟨w45.heap.size + 1, 0, none⟩) 2 2) := cells2_new ((w45.alloc (.cells (cellsN [⟨someS 8 7, .slice none 0 0, .nil⟩]).toArray 39)).alloc (.cells (cellsN [⟨someS 5 9, Value.slice (some ⟨w43.heap.size, 0, none⟩) 1 1, Fr.cons (someS 6 5) .nil .nil⟩, ⟨someS 7 8, Value.slice (some ⟨w45.heap.size, 0, none⟩) 1 1, Fr.cons (someS 8 7) .nil .nil⟩]).toArray 39)) (w45.heap.size + 1 + 1) (by simp) (Value.slice (some ⟨w41.heap.size, 0, none⟩) 1 1) (Value.slice (some ⟨w45.heap.size + 1, 0, none⟩) 2 2)
    have HF := Lib.hid (fun w' (k' : Kept (fun _ => False) (((w45.alloc (.cells (cellsN [⟨someS 8 7, .slice none 0 0, .nil⟩]).toArray 39)).alloc (.cells (cellsN [⟨someS 5 9, Value.slice (some ⟨w43.heap.size, 0, none⟩) 1 1, Fr.cons (someS 6 5) .nil .nil⟩, ⟨someS 7 8, Value.slice (some ⟨w45.heap.size, 0, none⟩) 1 1, Fr.cons (someS 8 7) .nil .nil⟩]).toArray 39)).alloc (.cells #[Value.slice (some ⟨w41.heap.size, 0, none⟩) 1 1, Value.slice (some ⟨w45.heap.size + 1, 0, none⟩) 2 2] 28)) w') => And.intro (show w'.cell? ⟨w45.heap.size + 1 + 1, 0, none⟩ = some (Value.slice (some ⟨w41.heap.size, 0, none⟩) 1 1) ∧ w'.cell? ⟨w45.heap.size + 1 + 1, 1, none⟩ = some (Value.slice (some ⟨w45.heap.size + 1, 0, none⟩) 2 2) from ⟨k'.cell nf.1 (fun f => f), k'.cell nf.2 (fun f => f)⟩) (HF.out w' (keptFF kq k')))
    clear kq nf
    go_wp2_with fail
    refine (some_any _ 2 2).mono ?_
    rintro e w46 ⟨rfl, k⟩
    have HF := Lib.hid (fun w' (k' : Kept (fun _ => False) w46 w') => HF.out w' (keptFF k k'))
    clear k
    go_wp2_with fail
    refine (leaf_any _ 3 2).mono ?_
    rintro e w47 ⟨rfl, k⟩
    have HF := Lib.hid (fun w' (k' : Kept (fun _ => False) w47 w') => HF.out w' (keptFF k k'))
    clear k
    have kq := (Kept.refl (fun _ => False) w47).alloc (.cells (cellsN [⟨someS 3 2, .slice none 0 0, .nil⟩]).toArray 39)
    have nf : ReadsF T1 (w47.alloc (.cells (cellsN [⟨someS 3 2, .slice none 0 0, .nil⟩]).toArray 39)) (.slice (some ⟨w47.heap.size, 0, none⟩) 1 1) (Fr.cons (someS 3 2) .nil .nil) := readsF_new' w47 (w47.heap.size) (by simp) [⟨someS 3 2, .slice none 0 0, .nil⟩] (fun x hx => by simp at hx; subst hx; exact ⟨none, 0, rfl, .inl rfl⟩)
    have HF := Lib.hid (fun w' (k' : Kept (fun _ => False) (w47.alloc (.cells (cellsN [⟨someS 3 2, .slice none 0 0, .nil⟩]).toArray 39)) w') => And.intro (show ReadsF T1 w' (.slice (some ⟨w47.heap.size, 0, none⟩) 1 1) (Fr.cons (someS 3 2) .nil .nil) from nf.kept k') (HF.out w' (keptFF kq k')))
    clear kq nf
    have kq := (Kept.refl (fun _ => False) (w47.alloc (.cells (cellsN [⟨someS 3 2, .slice none 0 0, .nil⟩]).toArray 39))).alloc (.cells (cellsN [⟨someS 2 2, Value.slice (some ⟨w47.heap.size, 0, none⟩) 1 1, Fr.cons (someS 3 2) .nil .nil⟩]).toArray 39)
    have nf : ReadsF T1 ((w47.alloc (.cells (cellsN [⟨someS 3 2, .slice none 0 0, .nil⟩]).toArray 39)).alloc (.cells (cellsN [⟨someS 2 2, Value.slice (some ⟨w47.heap.size, 0, none⟩) 1 1, Fr.cons (someS 3 2) .nil .nil⟩]).toArray 39)) (.slice (some ⟨w47.heap.size + 1, 0, none⟩) 1 1) Zo := readsF_new' (w47.alloc (.cells (cellsN [⟨someS 3 2, .slice none 0 0, .nil⟩]).toArray 39)) (w47.heap.size + 1) (by simp) [⟨someS 2 2, Value.slice (some ⟨w47.heap.size, 0, none⟩) 1 1, Fr.cons (someS 3 2) .nil .nil⟩] (fun x hx => by simp at hx; subst hx; exact (HF.out (w47.alloc (.cells (cellsN [⟨someS 3 2, .slice none 0 0, .nil⟩]).toArray 39)) (Kept.refl _ _)).1)
    have HF := Lib.hid (fun w' (k' : Kept (fun _ => False) ((w47.alloc (.cells (cellsN [⟨someS 3 2, .slice none 0 0, .nil⟩]).toArray 39)).alloc (.cells (cellsN [⟨someS 2 2, Value.slice (some ⟨w47.heap.size, 0, none⟩) 1 1, Fr.cons (someS 3 2) .nil .nil⟩]).toArray 39)) w') => And.intro (show ReadsF T1 w' (.slice (some ⟨w47.heap.size + 1, 0, none⟩) 1 1) Zo from nf.kept k') (HF.out w' (keptFF kq k')))
    clear kq nf
    have kq := (Kept.refl (fun _ => False) ((w47.alloc (.cells (cellsN [⟨someS 3 2, .slice none 0 0, .nil⟩]).toArray 39)).alloc (.cells (cellsN [⟨someS 2 2, Value.slice (some ⟨w47.heap.size, 0, none⟩) 1 1, Fr.cons (someS 3 2) .nil .nil⟩]).toArray 39))).alloc (.cells #[Value.slice none 0 0, Value.slice (some ⟨w47.heap.size + 1, 0, none⟩) 1 1] 28)
    have nf : (((w47.alloc (.cells (cellsN [⟨someS 3 2, .slice none 0 0, .nil⟩]).toArray 39)).alloc (.cells (cellsN [⟨someS 2 2, Value.slice (some ⟨w47.heap.size, 0, none⟩) 1 1, Fr.cons (someS 3 2) .nil .nil⟩]).toArray 39)).alloc (.cells #[Value.slice none 0 0, Value.slice (some ⟨w47.heap.size + 1, 0, none⟩) 1 1] 28)).cell? ⟨w47.heap.size + 1 + 1, 0, none⟩ = some (Value.slice none 0 0) ∧ (((w47.alloc (.cells (cellsN [⟨someS 3 2, .slice none 0 0, .nil⟩]).toArray 39)).alloc (.cells (cellsN [⟨someS 2 2, Value.slice (some ⟨w47.heap.size, 0, none⟩) 1 1, Fr.cons (someS 3 2) .nil .nil⟩]).toArray 39)).alloc (.cells #[Value.slice none 0 0, Value.slice (some ⟨w47.heap.size + 1, 0, none⟩) 1 1] 28)).cell? ⟨w47.heap.size + 1 + 1, 1, none⟩ = some (Value.slice (some ⟨w47.heap.size + 1, 0, none⟩) 1 1) := cells2_new ((w47.alloc (.cells (cellsN [⟨someS 3 2, .slice none 0 0, .nil⟩]).toArray 39)).alloc (.cells (cellsN [⟨someS 2 2, Value.slice (some ⟨w47.heap.size, 0, none⟩) 1 1, Fr.cons (someS 3 2) .nil .nil⟩]).toArray 39)) (w47.heap.size + 1 + 1) (by simp) (Value.slice none 0 0) (Value.slice (some ⟨w47.heap.size + 1, 0, none⟩) 1 1)
    have HF := Lib.hid (fun w' (k' : Kept (fun _ => False) (((w47.alloc (.cells (cellsN [⟨someS 3 2, .slice none 0 0, .nil⟩]).toArray 39)).alloc (.cells (cellsN [⟨someS 2 2, Value.slice (some ⟨w47.heap.size, 0, none⟩) 1 1, Fr.cons (someS 3 2) .nil .nil⟩]).toArray 39)).alloc (.cells #[Value.slice none 0 0, Value.slice (some ⟨w47.heap.size + 1, 0, none⟩) 1 1] 28)) w') => And.intro (show w'.cell? ⟨w47.heap.size + 1 + 1, 0, none⟩ = some (Value.slice none 0 0) ∧ w'.cell? ⟨w47.heap.size + 1 + 1, 1, none⟩ = some (Value.slice (some ⟨w47.heap.size + 1, 0, none⟩) 1 1) from ⟨k'.cell nf.1 (fun f => f), k'.cell nf.2 (fun f => f)⟩) (HF.out w' (keptFF kq k')))
    clear kq nf
    obtain ⟨wz, hWz⟩ : ∃ W, (((w47.alloc (.cells #[.int .i64 (someS 3 2).tr, .int .i64 (someS 3 2).id, .int .i64 (someS 3 2).pa, .string (someS 3 2).se, .string (someS 3 2).ho, .int .i64 (someS 3 2).st, .int .i64 (someS 3 2).du, .string (someS 3 2).no, .slice none 0 0] 39)).alloc (.cells #[.int .i64 (someS 2 2).tr, .int .i64 (someS 2 2).id, .int .i64 (someS 2 2).pa, .string (someS 2 2).se, .string (someS 2 2).ho, .int .i64 (someS 2 2).st, .int .i64 (someS 2 2).du, .string (someS 2 2).no, Value.slice (some ⟨w47.heap.size, 0, none⟩) 1 1] 39)).alloc (.cells #[.slice none 0 0, Value.slice (some ⟨w47.heap.size + 1, 0, none⟩) 1 1] 28)) = W := ⟨_, rfl⟩
    have HF := Lib.hid (fun w' (k' : Kept (fun _ => False) wz w') => HF.out w' (by rw [← hWz] at k'; exact k'))
    obtain ⟨y0, y1⟩ := (HF.out wz (Kept.refl _ _)).2.2.2.2.2.2.2.2.2.2.2.2.2.2.2.2.2.2.1
    obtain ⟨y2, y3⟩ := (HF.out wz (Kept.refl _ _)).2.2.2.2.2.2.2.2.1
    go_wp2_with fail
    refine (same_any T1 T1 _ _ _ _ _ Xa .nil Xa .nil (HF.out wz (Kept.refl _ _)).2.2.2.2.2.2.2.2.2.2.2.2.2.2.2.2.2.2.2.2.1 (HF.out wz (Kept.refl _ _)).2.2.2.2.2.2.2.2.2.2.2.2.2.2.2.2.2.2.2.1 (HF.out wz (Kept.refl _ _)).2.2.2.2.2.2.2.2.2.1 (⟨none, 0, rfl, .inl rfl⟩ : ReadsF T1 _ (.slice none 0 0) .nil) (by refine ⟨by decide, ?_⟩; simp [Xa, Fr.wide, Fr.len]) (by refine ⟨by decide, ?_⟩; simp [Fr.wide])).mono ?_
    rintro e w48 ⟨rfl, k⟩
    rw [sameB_refl, sameB_refl]
    simp only [Bool.and_self]
    have HF := Lib.hid (fun w' (k' : Kept (fun _ => False) w48 w') => HF.out w' (keptFF k k'))
    clear k y0 y1 y2 y3
    clear hWz
    obtain ⟨y0, y1⟩ := (HF.out w48 (Kept.refl _ _)).2.2.2.2.2.2.2.2.2.2.2.2.2.2.2.1
    obtain ⟨y2, y3⟩ := (HF.out w48 (Kept.refl _ _)).2.2.2.1
    go_wp2_with fail
    refine (same_any T1 T1 _ _ _ _ _ Yr Yo Yr Yo (HF.out w48 (Kept.refl _ _)).2.2.2.2.2.2.2.2.2.2.2.2.2.2.2.2.2.1 (HF.out w48 (Kept.refl _ _)).2.2.2.2.2.2.2.2.2.2.2.2.2.2.2.2.1 (HF.out w48 (Kept.refl _ _)).2.2.2.2.2.2.2.1 (HF.out w48 (Kept.refl _ _)).2.2.2.2.1 (by refine ⟨by decide, ?_⟩; simp [Yr, Fr.wide, Fr.len]) (by refine ⟨by decide, ?_⟩; simp [Yo, Fr.wide, Fr.len])).mono ?_
    rintro e w49 ⟨rfl, k⟩
    rw [sameB_refl, sameB_refl]
    simp only [Bool.and_self]
    have HF := Lib.hid (fun w' (k' : Kept (fun _ => False) w49 w') => HF.out w' (keptFF k k'))
    clear k y0 y1 y2 y3
    obtain ⟨y0, y1⟩ := (HF.out w49 (Kept.refl _ _)).2.2.2.2.2.2.2.2.2.2.2.2.1
    obtain ⟨y2, y3⟩ := (HF.out w49 (Kept.refl _ _)).1
    go_wp2_with fail
    refine (same_any T1 T1 _ _ _ _ _ .nil Zo .nil Zo (HF.out w49 (Kept.refl _ _)).2.2.2.2.2.2.2.2.2.2.2.2.2.2.1 (HF.out w49 (Kept.refl _ _)).2.2.2.2.2.2.2.2.2.2.2.2.2.1 (⟨none, 0, rfl, .inl rfl⟩ : ReadsF T1 _ (.slice none 0 0) .nil) (HF.out w49 (Kept.refl _ _)).2.1 (by refine ⟨by decide, ?_⟩; simp [Fr.wide]) (by refine ⟨by decide, ?_⟩; simp [Zo, Fr.wide, Fr.len])).mono ?_
    rintro e w50 ⟨rfl, k⟩
    rw [sameB_refl, sameB_refl]
    simp only [Bool.and_self]
    have HF := Lib.hid (fun w' (k' : Kept (fun _ => False) w50 w') => HF.out w' (keptFF k k'))
    clear k y0 y1 y2 y3
    obtain ⟨y0, y1⟩ := (HF.out w50 (Kept.refl _ _)).2.2.2.2.2.2.2.2.2.2.2.2.2.2.2.1
    go_wp2_with fail
    refine (count_any T1 _ _ _ Yr Yo (HF.out w50 (Kept.refl _ _)).2.2.2.2.2.2.2.2.2.2.2.2.2.2.2.2.2.1 (HF.out w50 (Kept.refl _ _)).2.2.2.2.2.2.2.2.2.2.2.2.2.2.2.2.1 (by decide)).mono ?_
    rintro e w51 ⟨rfl, k⟩
    rw [show ((Yr.size + Yo.size : Nat) : Int) = 5 from rfl]
    have HF := Lib.hid (fun w' (k' : Kept (fun _ => False) w51 w') => HF.out w' (keptFF k k'))
    clear k y0 y1
    obtain ⟨y0, y1⟩ := (HF.out w51 (Kept.refl _ _)).2.2.2.2.2.2.2.2.2.2.2.2.2.2.2.2.2.2.1
    go_wp2_with fail
    refine (flat_any T1 _ _ _ Xa .nil (HF.out w51 (Kept.refl _ _)).2.2.2.2.2.2.2.2.2.2.2.2.2.2.2.2.2.2.2.2.1 (HF.out w51 (Kept.refl _ _)).2.2.2.2.2.2.2.2.2.2.2.2.2.2.2.2.2.2.2.1 (by decide)).mono ?_
    rintro e w52 ⟨u0, rfl, own0, k⟩
    obtain ⟨g0, c0, eu0, hu0⟩ : ∃ g c, u0 = .slice (some ⟨g, 0, none⟩) 4 c ∧ w52.cell? ⟨g, 17, none⟩ = some (.int .i64 4) := by
      rcases row_form own0 with ⟨_, q⟩ | ⟨g, c, q, _, _, _, hc⟩
      · exact absurd q (by decide)
      · exact ⟨g, c, q, hc 17 _ rfl⟩
    subst eu0
    have HF := Lib.hid (fun w' (k' : Kept (fun _ => False) w52 w') => HF.out w' (keptFF k k'))
    clear k y0 y1 own0
    obtain ⟨y0, y1⟩ := (HF.out w52 (Kept.refl _ _)).2.2.2.2.2.2.2.2.2.2.2.2.2.2.2.2.2.2.1
    go_wp2_with fail
    refine (flat_any T1 _ _ _ Xa .nil (HF.out w52 (Kept.refl _ _)).2.2.2.2.2.2.2.2.2.2.2.2.2.2.2.2.2.2.2.2.1 (HF.out w52 (Kept.refl _ _)).2.2.2.2.2.2.2.2.2.2.2.2.2.2.2.2.2.2.2.1 (by decide)).mono ?_
    rintro e w53 ⟨u1, rfl, own1, k⟩
    obtain ⟨g1, c1, eu1, hu1⟩ : ∃ g c, u1 = .slice (some ⟨g, 0, none⟩) 4 c ∧ w53.cell? ⟨g, 17, none⟩ = some (.int .i64 4) := by
      rcases row_form own1 with ⟨_, q⟩ | ⟨g, c, q, _, _, _, hc⟩
      · exact absurd q (by decide)
      · exact ⟨g, c, q, hc 17 _ rfl⟩
    subst eu1
    have HF := Lib.hid (fun w' (k' : Kept (fun _ => False) w53 w') => HF.out w' (keptFF k k'))
    clear k y0 y1 own1
    go_wp2
    go_ret
    exact ⟨rfl, (HF.out w53 (Kept.refl _ _)).2.2.2.2.2.2.2.2.2.2.2.2.2.2.2.2.2.2.2.2.2.1⟩
end Go.Proofs.Ytjidldbolbjdpaa
