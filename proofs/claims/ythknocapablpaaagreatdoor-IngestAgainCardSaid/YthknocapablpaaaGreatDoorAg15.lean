/- A part of the proof. -/
import Derived.Test.YthknocapablpaaaGreatDoorAg14
import Derived.Test.YthknocapablpaaaGreatDoorAg13

/- A disk and a store on it: what Opened leaves. -/
namespace Go.Proofs.YthknocapablpaaaGreatDoor
open Go.RowKit Go.Eng
set_option maxRecDepth 100000
theorem off0 {P : Program} {η : Env} {n c c' : Nat} {h h' : Heap} {w w' : World} {σ' : Sig} (W : Went P η (sig0 n) h c w σ' h' c' w') {k : Nat} {o : AObj} (hk : h'.get k = some o) : ∃ b s, σ' k = some ⟨b, 0, s⟩ ∧ ObjR P σ' η w' ⟨b, 0, s⟩ o := by
 obtain ⟨l, hl, ob⟩ := W.rel.obj k o hk
 have h0 : l.off = 0 := by
  rcases W.off k l (by rw [hk]; rfl) hl with h | ⟨m, x, _, hx, e⟩
  ·exact h
  ·unfold sig0 at hx
   split at hx
   ·cases hx; exact e.symm
   ·cases hx
 obtain ⟨b, o', s⟩ := l
 simp only at h0
 subst h0
 exact ⟨b, s, hl, ob⟩
theorem cells_of {P : Program} {σ : Sig} {η : Env} {w : World} {b s t : Nat} {cs : List AV} (h : ObjR P σ η w ⟨b, 0, s⟩ (.cells t cs)) : ∃ (C : Array Value) (fr : Nat × Nat) (vs : List Value), w.heap[b]? = some (.cells C t fr) ∧ concs σ η cs = some vs ∧ (∀ (i : Nat) (v : Value), vs[i]? = some v → C[i]? = some v) ∧ (∀ i : Nat, i < vs.length → w.frozen? ⟨b, i, none⟩ = false) := by
 obtain ⟨c, fr, vs, h1, h2, h3, h4, h5, h6, h7⟩ := h
 simp only [Nat.zero_add] at h1 h5 h6
 refine ⟨c, fr, vs, h1, h3, h5, fun i hi => ?_⟩
 have hl : i < lim P t c.size := Nat.lt_of_lt_of_le (Nat.lt_of_lt_of_le hi (by omega)) lim_le
 have := h2 i hl
 simp only [World.frozen?, h1]
 simpa using this
theorem hOp0_get {n : Nat} {o : AObj} (h : hOp0.get n = some o) : n = 1 := by
 have e : hOp0 = Tr.set deep .nil 1 (some (.ro 265 [.sym 1])) := rfl
 rw [e] at h
 by_cases q : n = 1
 ·exact q
 ·rw [Tr.get_set_other deep .nil 1 n _ (Ne.symm q), Tr.get_nil] at h
  cases h
section
variable {η : Env} {w w' : World} {σ' : Sig} {c' : Nat}
theorem new_blk (W : Went Tryz.prog η (sig0 6) hOp0 6 w σ' hOp c' w') {k b s : Nat} {o : AObj} (hk : hOp.get k = some o) (hs : σ' k = some ⟨b, 0, s⟩) (h1 : k ≠ 1) : w.heap.size ≤ b := by
 rcases Nat.lt_or_ge b w.heap.size with h | h
 ·obtain ⟨m, x, hm, hx, e⟩ := W.liv b h ⟨k, _, by rw [hk]; rfl, hs, rfl⟩
  obtain ⟨q, hq⟩ := Option.isSome_iff_exists.1 hm
  obtain rfl := hOp0_get hq
  exact absurd (W.rel.inj k 1 _ x (by rw [hk]; rfl) (by rfl) hs (W.ext 1 x hx) e.symm) h1
 ·exact h
theorem apart (W : Went Tryz.prog η (sig0 6) hOp0 6 w σ' hOp c' w') {k j b d s r : Nat} {o q : AObj} (hk : hOp.get k = some o) (hj : hOp.get j = some q) (hs : σ' k = some ⟨b, 0, s⟩) (hr : σ' j = some ⟨d, 0, r⟩) (h : k ≠ j) : b ≠ d := fun e =>
 h (W.rel.inj k j _ _ (by rw [hk]; rfl) (by rw [hj]; rfl) hs hr e)
set_option maxHeartbeats 4000000 in
theorem opened_at (W : Went Tryz.prog η (sig0 6) hOp0 6 w σ' hOp c' w') : ∃ (S : Sto) (own : Nat → Prop), conc σ' η (.tup [.ptr 7 0, .ptr 77 0]) = some (.tuple #[.pointer (some ⟨S.d, 0, none⟩), .pointer (some ⟨S.s, 0, none⟩)]) ∧ HoldT w.heap.size S own w' 1 200 [] := by
 have g6 : hOp.get 6 = some (.map [(.str [109], .agg [.str [2, 0, 5, 1, 2, 1, 0, 0, 0, 21, 0, 5, 3], I 13], 1)] 2) := rfl
 have g7 : hOp.get 7 = some (.cells 112 [I 1048576, I 0, .bool false, .map 6, .nilf, .nils]) := rfl
 have g12 : hOp.get 12 = some (.cells 215 [.str [], .nils]) := rfl
 have g13 : hOp.get 13 = some (.cells 195 [.ptr 7 0, I 0, .bool false, .slice 12 0 1 1 false, I 1, I 2, I 13]) := rfl
 have g67 : hOp.get 67 = some (.cells 199 [.ptr 7 0, I 0, .bool false, I 1]) := rfl
 have g77 : hOp.get 77 = some (.cells 126 [.ptr 7 0, .ptr 13 0, .ptr 67 0, .slice 91 0 1 1 true, .map 76, I 0]) := rfl
 have g76 : hOp.get 76 = some (.map [] 0) := rfl
 have g89 : hOp.get 89 = some (.cells 208 [.bool true, .nils]) := rfl
 have g91 : hOp.get 91 = some (.cells 127 [.ptr 89 0]) := rfl
 obtain ⟨b6, s6, e6, o6⟩ := off0 W g6
 obtain ⟨b7, s7, e7, o7⟩ := off0 W g7
 obtain ⟨b12, s12, e12, o12⟩ := off0 W g12
 obtain ⟨b13, s13, e13, o13⟩ := off0 W g13
 obtain ⟨b67, s67, e67, o67⟩ := off0 W g67
 obtain ⟨b76, s76, e76, o76⟩ := off0 W g76
 obtain ⟨b77, s77, e77, o77⟩ := off0 W g77
 obtain ⟨b89, s89, e89, o89⟩ := off0 W g89
 obtain ⟨b91, s91, e91, o91⟩ := off0 W g91
 obtain ⟨C7, r7, v7, h7, q7, c7, f7⟩ := cells_of o7
 obtain ⟨C12, r12, v12, h12, q12, c12, f12⟩ := cells_of o12
 obtain ⟨C13, r13, v13, h13, q13, c13, f13⟩ := cells_of o13
 obtain ⟨C67, r67, v67, h67, q67, c67, f67⟩ := cells_of o67
 obtain ⟨C77, r77, v77, h77, q77, c77, f77⟩ := cells_of o77
 obtain ⟨C89, r89, v89, h89, q89, c89, f89⟩ := cells_of o89
 obtain ⟨C91, r91, v91, h91, q91, c91, f91⟩ := cells_of o91
 simp only [concs, conc, I, e7, e6, Option.some.injEq, Nat.add_zero] at q7
 simp only [concs, conc, List.all_nil, List.map_nil, if_true, Option.some.injEq] at q12
 simp only [concs, conc, I, e7, e12, Option.some.injEq, Nat.add_zero, Bool.false_eq_true, if_false] at q13
 simp only [concs, conc, I, e7, Option.some.injEq, Nat.add_zero] at q67
 simp only [concs, conc, I, e7, e13, e67, e76, e91, Option.some.injEq, Nat.add_zero, if_true] at q77
 simp only [concs, conc, Option.some.injEq] at q89
 simp only [concs, conc, e89, Option.some.injEq, Nat.add_zero] at q91
 subst q7 q12 q13 q67 q77 q89 q91
 have cell : ∀ {b : Nat} {C : Array Value} {t : TypeId} {r : Nat × Nat} (_ : w'.heap[b]? = some (.cells C t r)) {i : Nat} {v : Value}, C[i]? = some v → w'.cell? ⟨b, i, none⟩ = some v := fun h i v hv => by
  simp only [World.cell?, h]
  simpa using hv
 obtain ⟨ms, hm, hes⟩ := o6
 have hF : MapF w' b6 (filesL [⟨⟨#[109]⟩, ⟨#[2, 0, 5, 1, 2, 1, 0, 0, 0, 21, 0, 5, 3]⟩, 13⟩]) := by
  obtain ⟨l⟩ := ms
  match l, hes with
  | [⟨k, v, b⟩], ⟨k1, k2, k3, _⟩ =>
   simp only at k1 k2 k3
   have k1' : k = .string ⟨#[109]⟩ := by
    have : conc σ' η (.str [109]) = some (.string ⟨#[109]⟩) := rfl
    rw [this] at k1
    exact (Option.some.inj k1).symm
   have k2' : v = fileV ⟨#[2, 0, 5, 1, 2, 1, 0, 0, 0, 21, 0, 5, 3]⟩ 13 := by
    have : conc σ' η (.agg [.str [2, 0, 5, 1, 2, 1, 0, 0, 0, 21, 0, 5, 3], I 13]) = some (fileV ⟨#[2, 0, 5, 1, 2, 1, 0, 0, 0, 21, 0, 5, 3]⟩ 13) := rfl
    rw [this] at k2
    exact (Option.some.inj k2).symm
   subst k1' k2' k3
   exact hm
 have n7 := new_blk W g7 e7 (by decide)
 have n6 := new_blk W g6 e6 (by decide)
 have n77 := new_blk W g77 e77 (by decide)
 have n89 := new_blk W g89 e89 (by decide)
 have lt : ∀ {b : Nat} {o : Obj}, w'.heap[b]? = some o → b < w'.heap.size := fun h => (Array.getElem?_eq_some_iff.1 h).1
 have still : ∀ b, (⟨b77, b7, b13, b67, b91, b89, b12, 0, b6, 1 + s91⟩ : Sto).still b → b ≠ b89 ∧ b ≠ b77 ∧ b ≠ b6 := fun b hb => by
  rcases hb with rfl | rfl | rfl | rfl | rfl
  ·exact ⟨apart W g7 g89 e7 e89 (by decide), apart W g7 g77 e7 e77 (by decide), apart W g7 g6 e7 e6 (by decide)⟩
  ·exact ⟨apart W g13 g89 e13 e89 (by decide), apart W g13 g77 e13 e77 (by decide), apart W g13 g6 e13 e6 (by decide)⟩
  ·exact ⟨apart W g67 g89 e67 e89 (by decide), apart W g67 g77 e67 e77 (by decide), apart W g67 g6 e67 e6 (by decide)⟩
  ·exact ⟨apart W g91 g89 e91 e89 (by decide), apart W g91 g77 e91 e77 (by decide), apart W g91 g6 e91 e6 (by decide)⟩
  ·exact ⟨apart W g12 g89 e12 e89 (by decide), apart W g12 g77 e12 e77 (by decide), apart W g12 g6 e12 e6 (by decide)⟩
 refine ⟨⟨b77, b7, b13, b67, b91, b89, b12, 0, b6, 1 + s91⟩, fun b => b = b89, (by simp only [conc, concs, e7, e77, Nat.add_zero]), ⟨fun m hm => (by cases hm), ⟨[⟨⟨#[109]⟩, ⟨#[2, 0, 5, 1, 2, 1, 0, 0, 0, 21, 0, 5, 3]⟩, 13⟩], [], ?_, ?_⟩, ?_⟩⟩
 ·refine { c0 := cell h77 (c77 0 _ rfl), c1 := cell h77 (c77 1 _ rfl), c2 := cell h77 (c77 2 _ rfl), c3 := cell h77 (c77 3 _ rfl), c5 := cell h77 (c77 5 _ rfl), f5 := f77 5 (by show 5 < 6; decide), g0 := cell h91 (c91 0 _ rfl), man := ?_, jrn := ?_, dsk := ?_, fls := ?_, mem := ?_, srt := List.Pairwise.nil, st := ?_, os := ?_, of := ?_, ob := ?_ }
  ·exact ⟨apart W g13 g12 e13 e12 (by decide), ⟨C12, _, r12, h12, c12 0 _ rfl, c12 1 _ rfl⟩, C13, _, r13, h13, c13 0 _ rfl, c13 3 _ rfl, c13 4 _ rfl, c13 5 _ rfl, c13 1 _ rfl, c13 2 _ rfl⟩
  ·exact ⟨cell h67 (c67 0 _ rfl), cell h67 (c67 1 _ rfl), cell h67 (c67 2 _ rfl), cell h67 (c67 3 _ rfl)⟩
  ·exact ⟨cell h7 (c7 0 _ rfl), cell h7 (c7 1 _ rfl), cell h7 (c7 2 _ rfl), cell h7 (c7 3 _ rfl), cell h7 (c7 4 _ rfl), hF, by simp⟩
  ·exact ⟨fun f hf => (by simp at hf; subst hf; decide), by decide, by decide⟩
  ·exact .inl ⟨rfl, ⟨cell h89 (c89 0 _ rfl), cell h89 (c89 1 _ rfl), f89 1 (by show 1 < 2; decide), rfl, fun b hb => hb ▸ lt h89⟩⟩
  ·intro b hb h
   have := still b hb
   rcases h with h | h | h
   ·exact this.1 h
   ·exact this.2.1 h
   ·exact this.2.2 h
  ·exact apart W g77 g89 e77 e89 (by decide)
  ·exact apart W g6 g89 e6 e89 (by decide)
  ·exact fun b hb => hb ▸ lt h89
 ·exact List.Perm.refl _
 ·intro b hb
  rcases hb with rfl | rfl | rfl
  ·exact n89
  ·exact n77
  ·exact n6
end
theorem last_piece2 {P : Program} {η : Env} {σ : Sig} {sm : Sm} (hm : P.follows .mixedOrders = true) (hng : NoGo P = true) (hsm : SmOk P η sm) {n nt : Nat} (hn : nt ≤ bigN) {keep : List Nat} {l : List Code} {k : Nat} {tm tm' : Tmps} {h h' : Heap} {c c' : Nat} {fn : Func} {v : AV} {vs : List AV} {R : Ending → World → Prop} {w : World} {a : Act}
  (he : cdEq (codeK P sm n nt keep (l.drop k) tm [] h c) (.mk .ret tm' [] h' c') = true) (H : HR P σ η h c w) (T : TR σ η nt tm a.tmps) (D : a.defers = []) (hr : resV tm' h' P fn.results.toList = some vs) (hv : oneV vs = v)
  (next : ∀ σ' u w', conc σ' η v = some u → Went P η σ h c w σ' h' c' w' → R (.returned u) w') : wpL P (bodyPost P fn R) (l.drop k) a w := by
 refine wpL_mono ?_ (codeK_ok hm hng hsm n hn (cdEq_eq he) H T (by rw [D]; trivial))
 rintro ex a' w' ⟨σ', rfl, d, T', W⟩
 have hd : a'.defers = [] := by
  cases hd : a'.defers with
  | nil => rfl
  | cons x y => rw [hd] at d; exact d.elim
 obtain ⟨_, _, u, u1, u2⟩ := res_ok (fn := fn) (v := v) (h' := h') (c' := c') W.rel T' (by rw [hr]; show fAV (oneV vs) (fun v => some (CRes.mk v h' c')) = _; rw [fAV_eq, hv])
 exact ⟨hd, u, u1, next σ' u w' u2 W⟩
theorem opened_any {η : Env} {w : World} (h0 : RoHeap Tryz.prog η hOp0 w) : Calls Tryz.prog 11 #[] w fun e w' => (∃ (S : Sto) (own : Nat → Prop), e = .returned (.tuple #[.pointer (some ⟨S.d, 0, none⟩), .pointer (some ⟨S.s, 0, none⟩)]) ∧ HoldT w.heap.size S own w' 1 200 []) ∧ Kept (fun _ => False) w w' := by
 have hk : ∀ n o, hOp0.get n = some o → ∃ t cs, hOp.get n = some (.ro t cs) := fun n o hn => by
  have hb := ro_names (h0 n o hn).1 hn (by decide +kernel : roSame Tryz.prog.globals.size hOp0 hOp = true)
  exact hb
 refine calls_of_wp Tryz.func11 (c := _) rfl (wp_flat (w := w) ?_)
 have hp : flat _ [] = pOp := rfl
 rw [hp]
 have s0 := start_ok h0
 rw [show Tryz.prog.globals.size = 6 by kernel_rfl] at s0
 rw [show pOp = pOp.drop 0 by simp]
 refine last_piece2 (l := pOp) mixed noGo (smAll_ok (η := η)) (by decide) rOp s0 noArgs rfl (v := .tup [.ptr 7 0, .ptr 77 0]) (by rfl) rfl fun s u x hu W => ?_
 obtain ⟨S, own, hc, H⟩ := opened_at W
 rw [hc] at hu
 have e := (Option.some.inj hu).symm
 subst e
 have K := end_ok h0 (by rw [show Tryz.prog.globals.size = 6 by kernel_rfl]; exact W) hk
 exact ⟨⟨S, own, rfl, H⟩, ⟨K.os, K.tape, K.output, K.size, K.block⟩⟩
end Go.Proofs.YthknocapablpaaaGreatDoor

