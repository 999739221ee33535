/- SpansA, SameA, LawNone, Acts, OnceP, RefP, RefM, Rput, Rr, Rtake, Rmod -/
import Derived.Test.YtibakmchgppndaaP7
/- (*Model).Spans of any model: the spans that have not expired, sorted. -/
namespace Go.Proofs.Ytibakmchgppndaa
open Go.RowKit Go.MapKept Go.Instr Go.ChangeMaps

/-- The spans whose numbers are not among these. -/
def leftS (seen : Array Nat) : Nat → List Spn → List Spn
 | _, [] => []
 | n, m :: t => if seen.contains n = true then leftS seen (n + 1) t else m :: leftS seen (n + 1) t
theorem left_push_old (seen : Array Nat) (b : Nat) : ∀ (M : List Spn) (n : Nat), b < n → leftS (seen.push b) n M = leftS seen n M
 | [], n, _ => rfl
 | m :: t, n, h => by
  have e : (seen.push b).contains n = seen.contains n := by
   rw [contains_push]; have : (n == b) = false := by simp; omega
   rw [this, Bool.or_false]
  rw [leftS, leftS, e, left_push_old seen b t (n + 1) (by omega)]
theorem left_perm (seen : Array Nat) : ∀ (M : List Spn) (n i : Nat) (m : Spn), M[i]? = some m → seen.contains (n + i) = false → (m :: leftS (seen.push (n + i)) n M).Perm (leftS seen n M)
 | [], n, i, m, h, _ => by simp at h
 | a :: t, n, 0, m, h, hs => by
  simp at h; subst h
  have e1 : seen.contains n = false := hs
  have e2 : (seen.push n).contains n = true := by rw [contains_push]; simp
  rw [leftS, leftS, Nat.add_zero, e1, e2, if_pos rfl, if_neg (by simp), left_push_old seen n t (n + 1) (by omega)]
 | a :: t, n, i + 1, m, h, hs => by
  have hn : n + (i + 1) = (n + 1) + i := by omega
  rw [hn] at hs ⊢
  have ih := left_perm seen t (n + 1) i m (by simpa using h) hs
  have e : (seen.push (n + 1 + i)).contains n = seen.contains n := by
   rw [contains_push]; have : (n == n + 1 + i) = false := by simp; omega
   rw [this, Bool.or_false]
  rw [leftS, leftS, e]
  cases hc : seen.contains n with
  | true => rw [if_pos rfl, if_pos rfl]; exact ih
  | false =>
   rw [if_neg (by simp), if_neg (by simp)]
   exact (List.Perm.swap a m _).trans (ih.cons a)
theorem left_all (seen : Array Nat) : ∀ (M : List Spn) (n : Nat), (∀ i, i < M.length → seen.contains (n + i) = true) → leftS seen n M = []
 | [], n, _ => rfl
 | m :: t, n, h => by
  have h0 := h 0 (by simp)
  rw [Nat.add_zero] at h0
  rw [leftS, if_pos h0]
  exact left_all seen t (n + 1) (fun i hi => by have := h (i + 1) (by simp; omega); rwa [show n + (i + 1) = n + 1 + i by omega] at this)
theorem left_none : ∀ (M : List Spn) (n : Nat), leftS #[] n M = M
 | [], n => rfl
 | m :: t, n => by rw [leftS, if_neg (by simp), left_none t (n + 1)]
abbrev entM (M : List Spn) : Array MapEntry := (entsL 0 (kvM M)).toArray
theorem entM_at (M : List Spn) (i : Nat) : (entM M)[i]? = (M[i]?).map (fun m => ⟨keyV (keyOf m), aggS m, i⟩) := by
 simp [entM, entsL_at, kvM]
 cases M[i]? <;> simp
theorem mem_entM {M : List Spn} {e : MapEntry} (h : e ∈ (entM M).toList) : ∃ i m, M[i]? = some m ∧ e = ⟨keyV (keyOf m), aggS m, i⟩ := by
 obtain ⟨i, hi⟩ := List.mem_iff_getElem?.1 h
 have : (entM M)[i]? = some e := by simpa using hi
 rw [entM_at] at this
 cases hm : M[i]? with
 | none => simp [hm] at this
 | some m => simp [hm] at this; exact ⟨i, m, hm, this.symm⟩
theorem born_list : ∀ (L : List KV) (n : Nat), (entsL n L).map (·.born) = List.range' n L.length
 | [], n => rfl
 | p :: t, n => by simp [entsL, born_list t (n + 1), List.range'_succ]
theorem born_once (M : List Spn) : ((entM M).toList.map (·.born)).Nodup := by
 simp [born_list]; exact List.nodup_range'
theorem done_left {M : List Spn} {seen : Array Nat} (h : (leftOf (entM M) seen).size = 0) : leftS seen 0 M = [] := by
 refine left_all seen M 0 (fun i hi => ?_)
 have hm : M[i]? = some M[i] := List.getElem?_eq_getElem hi
 have he : (entM M)[i]? = some ⟨keyV (keyOf M[i]), aggS M[i], i⟩ := by rw [entM_at, hm]; rfl
 have := all_seen (entM M) seen h _ (List.mem_iff_getElem?.2 ⟨i, by simpa using he⟩)
 simpa using this
def liveF (now : Int) (L : List Spn) : List Spn := L.filter (fun m => !lateB m.st now)
theorem live_late {now : Int} {V : List Spn} {m : Spn} (h : lateB m.st now = true) : liveF now (V ++ [m]) = liveF now V := by
 unfold liveF; simp [h]
theorem live_live {now : Int} {V : List Spn} {m : Spn} (h : lateB m.st now = false) : liveF now (V ++ [m]) = liveF now V ++ [m] := by
 unfold liveF; simp [h]
theorem own_kept {S : Nat → Prop} {w w' : World} {base e size : Nat} {v : Value} {n : Nat} {xs : List Value} (h : w.ownsRow base e size v n xs) (hK : Kept S w w') (hv : ∀ b, v.ownBlock = some b → ¬ S b) : w'.ownsRow base e size v n xs := by
 obtain ⟨h1, h2⟩ := h
 refine ⟨h1, ?_⟩
 rcases h2 with h2 | ⟨g, cap, cur, rfl, hb, hg, rest⟩
 ·exact .inl h2
 ·exact .inr ⟨g, cap, cur, rfl, hb, (hK.block g (Array.getElem?_eq_some_iff.1 hg).1 (hv g rfl)).trans hg, rest⟩
theorem own_from {w : World} {base e size : Nat} {v : Value} {n : Nat} {xs : List Value} (h : w.ownsRow base e size v n xs) {q : Nat} (hq : v.ownBlock = some q) : base ≤ q := by
 rcases h.2 with ⟨rfl, _⟩ | ⟨g, cap, cur, rfl, hb, _⟩
 ·cases hq
 ·cases hq; exact hb
theorem own_slice {w : World} {base e size : Nat} {v : Value} {n : Nat} {xs : List Value} (h : w.ownsRow base e size v n xs) : ∃ a c, v = .slice a n c := by
 rcases row_form h with ⟨h1, h2⟩ | ⟨g, c, h1, _⟩
 ·exact ⟨none, 0, by rw [h1, h2]⟩
 ·exact ⟨_, _, h1⟩

set_option maxHeartbeats 8000000 in
set_option maxRecDepth 100000 in
theorem spans_all {w : World} {p b : Nat} {M : List Spn} (now : Int) (h1 : 0 ≤ now) (h2 : now ≤ 4294967296) (h : ModelAt w p b M) (hM : M.length ≤ 1000000000) :
  Calls Try.prog 10 #[.pointer (some ⟨p, 0, none⟩), .int .i64 now] w fun e w' => Kept (fun _ => False) w w' ∧ ∃ v R, e = .returned v ∧ ReadsS w' v R ∧ R.Perm (liveF now M) ∧ SortedS R := by
 obtain ⟨i0, hi0, hz0, hz1, hz2⟩ := info_parts inf37
 have N := Lib.hid (none_not p b w h.cell)
 have hmap : w.heap[b]? = some (.map (entM M) M.length) := by
  have := h.map
  have hk : (kvM M).length = M.length := by simp [kvM]
  unfold MapIs at this
  rwa [hk] at this
 have R := run_range_map (P := Try.prog) w 68 74 37 b (entM M) M.length u68 hmap
 have hc := h.cell
 have HM := Lib.hid hmap
 have HL := Lib.hid h.map.lt
 have MAY := Lib.hid h.may
 have HS := Lib.hid hM
 obtain ⟨es, hes⟩ : ∃ es, entM M = es := ⟨_, rfl⟩
 have ES := Lib.hid hes
 rw [hes] at HM
 clear h hmap hM hes
 go_enter Try.func10, Try.ntmps10
 go_wp2_with (go_at_call 28; refine N.out.mono ?_; rintro e w4 ⟨rfl, rfl⟩)
 clear R hc
 go_loopg [5] (leftOf es #[]).size (fun gh s wr => ∃ (seen : Array Nat) (V : List Spn), gh = (leftOf es seen).size ∧ (∃ ao cap, s = .slice ao (liveF now V).length cap) ∧ wr.ownsRow (w.heap.size + 1) 37 8 s (liveF now V).length (cellsS (liveF now V)) ∧ (V ++ leftS seen 0 M).Perm M ∧ wr.heap[w.heap.size]? = some (.mapIter (some b) M.length seen M.length) ∧ Kept (fun _ => False) w wr)
 case atStart =>
  exact ⟨#[], [], rfl, ⟨none, 0, rfl⟩, World.ownsRow_nil _ _ _ _, by rw [left_none]; exact List.Perm.refl _, heap_alloc_new w _, (Kept.refl _ w).alloc _⟩
 case round =>
  obtain ⟨seen, V, hgk, ⟨ao, cap, rfl⟩, ho, hp, hr, kw⟩ := hrel
  have GK := Lib.hid hgk
  have OW := Lib.hid ho
  have PE := Lib.hid hp
  have hb := (kw.block b HL.out (fun f => f)).trans HM.out
  have KW := Lib.hid kw
  have hlen : (liveF now V).length ≤ 1000000000 := by
   have e1 := List.length_filter_le (fun m : Spn => !lateB m.st now) V
   have e2 := hp.length_eq
   rw [List.length_append] at e2
   have := HS.out
   unfold liveF; omega
  clear hgk ho hp
  have hold : ∀ x ∈ es.toList, x.born < M.length := fun x hx => by
   rw [← ES.out] at hx
   obtain ⟨i, m, hm, rfl⟩ := mem_entM hx
   exact (List.getElem?_eq_some_iff.1 hm).1
  rcases run_next_at (P := Try.prog) wr 0 w.heap.size b M.length M.length seen es M.length hr hb hold (Nat.le_refl _) with ⟨hl, n1⟩ | ⟨e, he, w1, hw1, n1⟩
  ·have hnil : leftS seen 0 M = [] := done_left (by rw [ES.out]; exact hl)
   have SO := Lib.hid (sort_own OW.out (by omega))
   have PV := Lib.hid (show (liveF now V).Perm (liveF now M) from by
    have := PE.out
    rw [hnil, List.append_nil] at this
    exact this.filter _)
   clear hr hb hold hl hnil
   go_wp2_with fail
   refine SO.out.mono ?_
   rintro e w4 ⟨rfl, k4, d', pd, sd, rd⟩
   have K4 := Lib.hid (KW.out.trans k4 (fun _ _ f => f) (fun q hq hs => by have := own_from OW.out hs; omega) : Kept (fun _ => False) w w4)
   have F := Lib.hid (And.intro pd (And.intro sd rd))
   clear k4 pd sd rd
   go_wp2
   go_ret
   exact ⟨K4.out, _, d', rfl, F.out.2.2, F.out.1.trans PV.out, F.out.2.1⟩
  ·obtain ⟨hes2, hun⟩ := mem_left he
   have HSH := Lib.hid (left_shrinks es seen e he)
   have hes3 := hes2
   rw [← ES.out] at hes3
   obtain ⟨i, m, hm, hem⟩ := mem_entM hes3
   have eb : e.born = i := by rw [hem]
   have ek : e.key = .agg #[.int .i64 m.tr, .int .i64 m.id] := by rw [hem]; rfl
   have ev : e.val = aggS m := by rw [hem]
   rw [eb] at hun HSH n1
   rw [ek, ev] at n1
   have PE2 := Lib.hid (show ((V ++ [m]) ++ leftS (seen.push i) 0 M).Perm M from by
    have := left_perm seen M 0 i m hm (by rw [Nat.zero_add]; exact hun)
    rw [Nat.zero_add] at this
    rw [List.append_assoc]
    exact (List.Perm.append_left V this).trans PE.out)
   have kr : Kept (fun _ => False) wr w1 := by rcases hw1 with rfl | rfl
                                               ·exact Kept.refl _ _
                                               ·exact (Kept.refl _ _).drew
   have hr1 : w1.heap[w.heap.size]? = some (.mapIter (some b) M.length seen M.length) := (kr.block _ (Array.getElem?_eq_some_iff.1 hr).1 (fun f => f)).trans hr
   obtain ⟨W2, hW2⟩ : ∃ W2, setBlock w1 w.heap.size (.mapIter (some b) M.length (seen.push i) M.length) = W2 := ⟨_, rfl⟩
   rw [hW2] at n1
   have k2 : Kept (fun k => k = w.heap.size) w1 W2 := by rw [← hW2]; exact kept_setBlock (S := fun k => k = _) (Kept.refl _ _) (fun _ => rfl) _
   have hr2 : W2.heap[w.heap.size]? = some (.mapIter (some b) M.length (seen.push i) M.length) := by rw [← hW2]; exact set_same _ (Array.getElem?_eq_some_iff.1 hr1).1
   have OW2 := Lib.hid (own_kept (own_kept OW.out kr (fun _ _ f => f)) k2 (fun q hq hs => by have := own_from OW.out hq; omega))
   have KW2 := Lib.hid ((KW.out.trans kr (fun _ _ f => f) (fun _ _ f => f)).trans k2 (fun _ _ f => f) (fun q hq hs => by omega) : Kept (fun _ => False) w W2)
   have hb2 := (KW2.out.block b HL.out (fun f => f)).trans HM.out
   have n2 := run_entry_at (P := Try.prog) W2 w.heap.size b M.length seen es M.length e (by rw [eb]; exact hr2) hb2 hes2 (by rw [← ES.out]; exact born_once M)
   rw [ek, ev] at n2
   unfold aggS at n1 n2
   have R2 := Lib.hid hr2
   have num := (chk_num (MAY.out m (List.mem_of_getElem? hm))).2.2.2.1
   have E := Lib.hid (expired_all m now num.1 num.2 h1 h2)
   obtain ⟨be, hbe⟩ : ∃ c, lateB m.st now = c := ⟨_, rfl⟩
   rw [hbe] at E
   have BE := Lib.hid hbe
   clear hw1 kr hr1 hW2 k2 hr2 hb2 hes2 hes3 hun hm hem eb ek ev hr hb hold num hbe he
   go_wp2_with fail
   refine (E.out _).mono ?_
   rintro e4 w4 ⟨rfl, k4⟩
   have KA := Lib.hid (((Kept.refl (fun _ => False) W2).alloc _).trans k4 (fun _ _ f => f) (fun _ _ f => f) : Kept (fun _ => False) W2 w4)
   have c4 : SpanAt w4 W2.heap.size m := (SpanAt.new (w := W2) (m := m)).keptF k4
   clear k4
   cases be with
   | true =>
    have K5 := Lib.hid (KW2.out.trans KA.out (fun _ _ f => f) (fun _ _ f => f) : Kept (fun _ => False) w w4)
    have R5 := Lib.hid ((KA.out.block _ (Array.getElem?_eq_some_iff.1 R2.out).1 (fun f => f)).trans R2.out)
    have O5 := Lib.hid (own_kept OW2.out KA.out (fun _ _ f => f))
    clear c4
    go_wp2
    go_roundg (leftOf es (seen.push i)).size
    case measure => rw [GK.out]; exact HSH.out
    case rel =>
     have e := live_late (V := V) BE.out
     exact ⟨seen.push i, V ++ [m], rfl, ⟨ao, cap, by rw [e]⟩, by rw [e]; exact O5.out, PE2.out, R5.out, K5.out⟩
   | false =>
    have q0 := c4 0 _ rfl
    have q1 := c4 1 _ rfl
    have q2 := c4 2 _ rfl
    have q3 := c4 3 _ rfl
    have q4 := c4 4 _ rfl
    have q5 := c4 5 _ rfl
    have q6 := c4 6 _ rfl
    have q7 := c4 7 _ rfl
    have O5 := Lib.hid (own_kept OW2.out KA.out (fun _ _ f => f))
    have s5 : w.heap.size + 1 ≤ w4.heap.size := by
     have e1 := (Array.getElem?_eq_some_iff.1 R2.out).1
     have := KA.out.size
     omega
    obtain ⟨n, hn⟩ : ∃ n, (liveF now V).length = n := ⟨_, rfl⟩
    have LN := Lib.hid hn
    rw [hn] at O5 hlen ⊢
    clear c4 hn
    go_wp2_with (at_builtin; refine wpList_append_own _ rfl _ _ 27 rfl (w.heap.size + 1) 37 i0 _ 8 88 Try.underlying27 hi0 hz0 hz1 hz2 rfl (by decide) _ _ _ rfl (own_kept O5.out ((Kept.refl (fun _ => False) w4).alloc _) (fun _ _ f => f)) ⟨w4.heap.size, 0, none⟩ 1 1 m.cells rfl rfl (World.news_of_block (heap_alloc_new w4 _)) ?qa ?qb ?qc ?qd ?_)
    case qa => intro u hu; simp [Spn.cells] at hu; rcases hu with rfl | rfl | rfl | rfl | rfl | rfl | rfl | rfl <;> rfl
    case qb => unfold maxLen; omega
    case qc => omega
    case qd => simp; omega
    intro v' w5 hown hgrow hnil
    have K6 := Lib.hid ((((KW2.out.trans KA.out (fun _ _ f => f) (fun _ _ f => f)).alloc (Obj.cells #[.int .i64 m.tr, .int .i64 m.id, .int .i64 m.pa, .string m.se, .string m.ho, .int .i64 m.st, .int .i64 m.du, .string m.no] 37)) : Kept (fun _ => False) w _).grown hgrow (fun k hk hlt => by have := own_from O5.out hk; omega))
    have R6 := Lib.hid (show w5.heap[w.heap.size]? = some (.mapIter (some b) M.length (seen.push i) M.length) from by
     have hl : w.heap.size < w4.heap.size := by omega
     rw [hgrow.block _ (by simp; omega) (fun hk => by have := own_from O5.out hk.symm; omega), ((Kept.refl (fun _ => False) w4).alloc _).block _ hl (fun f => f), KA.out.block _ (Array.getElem?_eq_some_iff.1 R2.out).1 (fun f => f)]
     exact R2.out)
    have O6 := Lib.hid hown
    obtain ⟨ao2, cap2, rfl⟩ := own_slice hown
    clear hown hgrow hnil q0 q1 q2 q3 q4 q5 q6 q7
    go_wp2
    go_roundg (leftOf es (seen.push i)).size
    case measure => rw [GK.out]; exact HSH.out
    case rel =>
     have e := live_live (V := V) BE.out
     have e2 : (liveF now V ++ [m]).length = n + 1 := by rw [List.length_append, LN.out]; rfl
     have e3 : cellsS (liveF now V ++ [m]) = cellsS (liveF now V) ++ m.cells := by rw [cellsS_append]; simp [cellsS]
     exact ⟨seen.push i, V ++ [m], rfl, ⟨ao2, cap2, by rw [e, e2]⟩, by rw [e, e2, e3]; exact O6.out, PE2.out, R6.out, K6.out⟩
end Go.Proofs.Ytibakmchgppndaa
/- SameSpans of two lists that are the same. -/
namespace Go.Proofs.Ytibakmchgppndaa
open Go.RowKit

theorem neq_same (m : Spn) (w : World) : (binOp .neq 37 (aggS m) (aggS m)).run Try.prog w = .ok (.bool false) w := by
 have q := s37
 unfold aggS
 simp [go_sem, q]
set_option maxHeartbeats 4000000 in
set_option maxRecDepth 100000 in
theorem same_refl (w : World) (va vb : Value) (A : List Spn) (ha : ReadsS w va A) (hb : ReadsS w vb A) (hl : A.length ≤ 1000000000) :
  Calls Try.prog 11 #[va, vb] w fun e w' => e = .returned (.bool true) ∧ Kept (fun _ => False) w w' := by
 obtain ⟨ao, ca, rfl, ra⟩ := ha
 obtain ⟨bo, cb, rfl, rb⟩ := hb
 have RA := Lib.hid ra; have RB := Lib.hid rb
 clear ra rb
 obtain ⟨n, hn⟩ : ∃ n, A.length = n := ⟨_, rfl⟩
 rw [hn]
 rw [hn] at hl
 have d0 : ((n : Int) != (n : Int)) = false := by simp
 have HA := Lib.hid hn
 clear hn
 have q0 := s37
 have q1 := g37
 go_enter Try.func11, Try.ntmps11
 go_wp2
 go_loopg [5] n (fun ghv s wr => ∃ (i : Nat), i + ghv = n ∧ s = .int .i64 i ∧ Kept (fun _ => False) w wr)
 case atStart => exact ⟨0, by omega, by go_num, Kept.refl _ _⟩
 case round =>
  obtain ⟨i, hg1, rfl, hk⟩ := hrel
  have G1 := Lib.hid hg1; have KK := Lib.hid hk
  clear hg1 hk
  by_cases hin : i < n
  ·have i0 : (i : Int) < (n : Int) := by omega
   have i1 : (0 : Int) ≤ (i : Int) := by omega
   have i2 : (i : Int) ≤ 1000000000 := by omega
   obtain ⟨g1, o1, rfl, hc1⟩ : ∃ g o, ao = some ⟨g, o, none⟩ ∧ ∀ j u, (cellsS A)[j]? = some u → w.cell? ⟨g, o + j, none⟩ = some u := by
    rcases RA.out with h | h
    ·have := HA.out; subst h; simp at this; omega
    ·exact h
   obtain ⟨g2, o2, rfl, hc2⟩ : ∃ g o, bo = some ⟨g, o, none⟩ ∧ ∀ j u, (cellsS A)[j]? = some u → w.cell? ⟨g, o + j, none⟩ = some u := by
    rcases RB.out with h | h
    ·have := HA.out; subst h; simp at this; omega
    ·exact h
   obtain ⟨x, hx⟩ : ∃ x, A[i]? = some x := ⟨_, List.getElem?_eq_getElem (by rw [HA.out]; exact hin)⟩
   have rx := ReadsS.at (fun j u hu => KK.out.cell (hc1 j u hu) (fun f => f)) hx
   have ry := ReadsS.at (fun j u hu => KK.out.cell (hc2 j u hu) (fun f => f)) hx
   have q2 := neq_same x
   unfold aggS at q2
   clear hx hc1 hc2
   go_wp2
   refine wp_region_held_drew (S := (fun w' => (w'.cell? ⟨g1, o1 + i * 8, none⟩ = some (.int .i64 x.tr) ∧ w'.cell? ⟨g1, o1 + i * 8 + 1, none⟩ = some (.int .i64 x.id) ∧ w'.cell? ⟨g1, o1 + i * 8 + 2, none⟩ = some (.int .i64 x.pa) ∧ w'.cell? ⟨g1, o1 + i * 8 + 3, none⟩ = some (.string x.se) ∧ w'.cell? ⟨g1, o1 + i * 8 + 4, none⟩ = some (.string x.ho) ∧ w'.cell? ⟨g1, o1 + i * 8 + 5, none⟩ = some (.int .i64 x.st) ∧ w'.cell? ⟨g1, o1 + i * 8 + 6, none⟩ = some (.int .i64 x.du) ∧ w'.cell? ⟨g1, o1 + i * 8 + 7, none⟩ = some (.string x.no)) ∧ (w'.cell? ⟨g2, o2 + i * 8, none⟩ = some (.int .i64 x.tr) ∧ w'.cell? ⟨g2, o2 + i * 8 + 1, none⟩ = some (.int .i64 x.id) ∧ w'.cell? ⟨g2, o2 + i * 8 + 2, none⟩ = some (.int .i64 x.pa) ∧ w'.cell? ⟨g2, o2 + i * 8 + 3, none⟩ = some (.string x.se) ∧ w'.cell? ⟨g2, o2 + i * 8 + 4, none⟩ = some (.string x.ho) ∧ w'.cell? ⟨g2, o2 + i * 8 + 5, none⟩ = some (.int .i64 x.st) ∧ w'.cell? ⟨g2, o2 + i * 8 + 6, none⟩ = some (.int .i64 x.du) ∧ w'.cell? ⟨g2, o2 + i * 8 + 7, none⟩ = some (.string x.no)))) (by kernel_rfl) ?_ (fun hHeld => ?_)
   ·exact ⟨rx, ry⟩
   refine tW 0 opAt0 hHeld ?_
   (try simp only [Act.put]); try simp only [z2, List.set]
   refine tW 1 opAt1 hHeld ?_
   (try simp only [Act.put]); try simp only [z2, List.set]
   refine tW 2 opAt2 hHeld ?_
   (try simp only [Act.put]); try simp only [z2, List.set]
   refine tH (v := ?_) 3 opAt3 ?_ hHeld ?_
   case refine_2 => (intro w hSw; (try dsimp only at hSw); obtain ⟨c0, c1, c2, c3, c4, c5, c6, c7⟩ := hSw.1; clear hSw; go_simp; all_goals (with_reducible rfl))
   (try simp only [Act.put]); try simp only [z2, List.set]
   refine tW 4 opAt4 hHeld ?_
   (try simp only [Act.put]); try simp only [z2, List.set]
   refine tW 5 opAt5 hHeld ?_
   (try simp only [Act.put]); try simp only [z2, List.set]
   refine tW 6 opAt6 hHeld ?_
   (try simp only [Act.put]); try simp only [z2, List.set]
   refine tH (v := ?_) 7 opAt7 ?_ hHeld ?_
   case refine_2 => (intro w hSw; (try dsimp only at hSw); obtain ⟨c0, c1, c2, c3, c4, c5, c6, c7⟩ := hSw.2; clear hSw; go_simp; all_goals (with_reducible rfl))
   (try simp only [Act.put]); try simp only [z2, List.set]
   refine tW 8 opAt8 hHeld ?_
   (try simp only [Act.put]); try simp only [z2, List.set]
   refine wpAnyH_done (by kernel_rfl) ?_ _
   go_wp2
   go_roundg (n - (i + 1))
   case measure => have := G1.out; omega
   case rel => exact ⟨i + 1, by omega, by go_num, KK.out.drew⟩
  ·have i0 : ¬ (i : Int) < (n : Int) := by omega
   go_wp2
   go_ret
   exact ⟨rfl, KK.out⟩
end Go.Proofs.Ytibakmchgppndaa
/- ModelNone, walked whole: at every input it returns true. -/
namespace Go.Proofs.Ytibakmchgppndaa
open Go.RowKit Go.MapKept Go.Instr Go.ChangeMaps

def AnyB (e : Ending) : Prop := ∃ r : Bool, e = .returned (.bool r)
set_option maxHeartbeats 4000000 in
set_option maxRecDepth 100000 in
theorem beyond_any {w : World} {v : Value} {L : List Spn} (h : ReadsS w v L) (hl : L.length ≤ 9223372036854775807) (hfit : ∀ y ∈ L, y.se.size ≤ 9223372036854775807 ∧ y.ho.size ≤ 9223372036854775807 ∧ y.no.size ≤ 9223372036854775807) :
  Calls Try.prog 27 #[v, .int .i64 20] w fun e w' => AnyB e ∧ w = w' := by
 obtain ⟨ao, cap, rfl, h⟩ := h
 have HR := Lib.hid h
 clear h
 by_cases h20 : L.length ≤ 20
 ·have e1 : ¬ (20 : Int) < (L.length : Int) := by omega
  go_enter Try.func27, Try.ntmps27
  go_wp2
  go_loopg [5] L.length (fun gh t wr => ∃ k : Nat, k + gh = L.length ∧ t = .int .i64 k ∧ wr = w)
  case atStart => exact ⟨0, by omega, rfl, rfl⟩
  case round =>
   obtain ⟨k, hk, rfl, rfl⟩ := hrel
   have hk1 : k ≤ L.length := by omega
   have JK := Lib.hid hk
   clear hk
   by_cases hlt : k < L.length
   ·rcases HR.out with h0 | ⟨g, o, rfl, hc⟩
    ·rw [h0] at hlt; simp at hlt
    obtain ⟨m, hm⟩ : ∃ m, L[k]? = some m := ⟨_, List.getElem?_eq_getElem hlt⟩
    obtain ⟨_, _, _, c3, c4, _, _, c7⟩ := ReadsS.at hc hm
    have f := hfit m (List.mem_of_getElem? hm)
    have i1 : (0 : Int) ≤ (k : Int) := by omega
    have i2 : (k : Int) < (L.length : Int) := by omega
    obtain ⟨b1, hb1⟩ : ∃ b, decide ((100 : Int) < (m.se.size : Int)) = b := ⟨_, rfl⟩
    have f1 := f.1; have f2 := f.2.1; have f3 := f.2.2
    clear hc hm f hb1
    by_cases g1 : (100 : Int) < (m.se.size : Int)
    ·go_wp2
     go_ret
     exact ⟨⟨_, rfl⟩, rfl⟩
    ·by_cases g2 : (100 : Int) < (m.ho.size : Int)
     ·go_wp2
      go_ret
      exact ⟨⟨_, rfl⟩, rfl⟩
     ·by_cases g3 : (100 : Int) < (m.no.size : Int)
      ·go_wp2
       go_ret
       exact ⟨⟨_, rfl⟩, rfl⟩
      ·go_wp2
       go_roundg (L.length - k - 1)
       case measure => have := JK.out; omega
       case rel => exact ⟨k + 1, by omega, by go_num, rfl⟩
   ·have e3 : ¬ (k : Int) < (L.length : Int) := by omega
    go_wp2
    go_ret
    exact ⟨⟨_, rfl⟩, rfl⟩
 ·have e1 : (20 : Int) < (L.length : Int) := by omega
  go_enter Try.func27, Try.ntmps27
  go_wp2
  go_ret
  exact ⟨⟨_, rfl⟩, rfl⟩

set_option maxHeartbeats 8000000 in
set_option maxRecDepth 100000 in
theorem modelNone_any (w : World) (v : Value) (L : List Spn) (t now : Int) (h : ReadsS w v L) (hl : L.length ≤ 9223372036854775807) (hfit : ∀ y ∈ L, y.se.size ≤ 9223372036854775807 ∧ y.ho.size ≤ 9223372036854775807 ∧ y.no.size ≤ 9223372036854775807) :
  Calls Try.prog 5 #[v, .int .i64 t, .int .i64 now] w fun e w' => e = .returned (.bool true) ∧ Below w.heap.size w w' := by
 have B := Lib.hid (beyond_any h hl hfit)
 clear h hl hfit
 go_enter Try.func5, Try.ntmps5
 go_wp2_with fail
 refine B.out.mono ?_
 rintro e w1 ⟨⟨r, rfl⟩, rfl⟩
 cases r with
 | true =>
  go_wp2_with fail
  refine (lives_any w).mono ?_
  rintro e w2 ⟨rfl, k2⟩
  have K2 := Lib.hid k2; clear k2
  go_wp2
  go_ret
  exact ⟨rfl, K2.out⟩
 | false =>
  go_wp2
  go_loopg [7, 8] 2 (fun gh s t wr => ∃ k : Nat, k + gh = 2 ∧ t = .int .i64 k ∧ NoneAt wr s ∧ Kept (fun _ => False) w wr)
  case atStart => exact ⟨0, by omega, rfl, .inl rfl, Kept.refl _ _⟩
  case round =>
   obtain ⟨k, hk, rfl, hn, kw⟩ := hrel
   have JK := Lib.hid hk; have KF := Lib.hid kw; have HN := Lib.hid hn
   clear hk kw hn
   by_cases hlt : k < 2
   ·have i1 : (k : Int) < 2 := by omega
    go_wp2_with fail
    refine (get_none t now HN.out).mono ?_
    rintro e w2 ⟨rfl, k2⟩
    obtain ⟨W2, hW2⟩ : ∃ W, w2.alloc (.cells #[.int .i64 0, .slice none 0 0] 46) = W := ⟨_, rfl⟩
    obtain ⟨n2, hn2⟩ : ∃ n, w2.heap.size = n := ⟨_, rfl⟩
    have kk2 : Kept (fun _ => False) wr W2 := by rw [← hW2]; exact k2.alloc _
    have c2 : W2.cell? ⟨n2, 1, none⟩ = some (.slice none 0 0) := by rw [← hW2, ← hn2]; simp
    have HN2 := Lib.hid (HN.out.kept kk2)
    have K2 := Lib.hid (keptFF KF.out kk2)
    have W2E := Lib.hid hW2; have N2E := Lib.hid hn2
    clear k2 hW2 hn2 kk2
    go_wp2_with fail
    rw [W2E.out, N2E.out]
    refine (scan_none 0 5 now HN2.out).mono ?_
    rintro e w3 ⟨rfl, k3⟩
    replace c2 := k3.cell c2 (fun f => f)
    obtain ⟨W3, hW3⟩ : ∃ W, w3.alloc (.cells #[.slice none 0 0, .int .i64 0, .bool false] 52) = W := ⟨_, rfl⟩
    obtain ⟨n3, hn3⟩ : ∃ n, w3.heap.size = n := ⟨_, rfl⟩
    have kk3 : Kept (fun _ => False) W2 W3 := by rw [← hW3]; exact k3.alloc _
    have c3 : W3.cell? ⟨n3, 0, none⟩ = some (.slice none 0 0) := by rw [← hW3, ← hn3]; simp
    replace c2 : W3.cell? ⟨n2, 1, none⟩ = some (.slice none 0 0) := by rw [← hW3]; exact ((Kept.refl (fun _ => False) w3).alloc _).cell c2 (fun f => f)
    have HN3 := Lib.hid (HN2.out.kept kk3)
    have K3 := Lib.hid (keptFF K2.out kk3)
    have W3E := Lib.hid hW3; have N3E := Lib.hid hn3
    clear k3 hW3 hn3 kk3
    go_wp2_with fail
    rw [W3E.out, N3E.out]
    refine (find_none now HN3.out).mono ?_
    rintro e w4 ⟨rfl, k4⟩
    replace c2 := k4.cell c2 (fun f => f)
    replace c3 := k4.cell c3 (fun f => f)
    have HN4 := Lib.hid (HN3.out.kept k4)
    have K4 := Lib.hid (keptFF K3.out k4)
    clear k4
    go_wp2_with fail
    refine (tree_none t now HN4.out).mono ?_
    rintro e w5 ⟨rfl, k5⟩
    replace c2 := k5.cell c2 (fun f => f)
    replace c3 := k5.cell c3 (fun f => f)
    obtain ⟨W5, hW5⟩ : ∃ W, w5.alloc (.cells #[.slice none 0 0, .slice none 0 0] 60) = W := ⟨_, rfl⟩
    obtain ⟨n5, hn5⟩ : ∃ n, w5.heap.size = n := ⟨_, rfl⟩
    have kk5 : Kept (fun _ => False) w4 W5 := by rw [← hW5]; exact k5.alloc _
    have c5 : W5.cell? ⟨n5, 0, none⟩ = some (.slice none 0 0) := by rw [← hW5, ← hn5]; simp
    replace c2 : W5.cell? ⟨n2, 1, none⟩ = some (.slice none 0 0) := by rw [← hW5]; exact ((Kept.refl (fun _ => False) w5).alloc _).cell c2 (fun f => f)
    replace c3 : W5.cell? ⟨n3, 0, none⟩ = some (.slice none 0 0) := by rw [← hW5]; exact ((Kept.refl (fun _ => False) w5).alloc _).cell c3 (fun f => f)
    have HN5 := Lib.hid (HN4.out.kept kk5)
    have K5 := Lib.hid (keptFF K4.out kk5)
    have W5E := Lib.hid hW5; have N5E := Lib.hid hn5
    clear k5 hW5 hn5 kk5
    go_wp2_with fail
    rw [W5E.out, N5E.out]
    refine (take_none v now HN5.out).mono ?_
    rintro e w6 ⟨rfl, rfl⟩
    go_wp2_with fail
    refine (spans_none now HN5.out).mono ?_
    rintro e w7 ⟨rfl, rfl⟩
    go_wp2
    go_roundg (2 - k - 1)
    case measure => have := JK.out; omega
    case rel =>
     have hj := JK.out
     refine ⟨k + 1, by omega, by go_num, .inr ⟨_, rfl, ?_⟩, K5.out.alloc _⟩
     simp
   ·have i1 : ¬ (k : Int) < 2 := by omega
    go_wp2_with fail
    refine (lives_any wr).mono ?_
    rintro e w2 ⟨rfl, k2⟩
    have K2 := Lib.hid ((KF.out.below (fun _ _ f => f)).trans (k2.mono KF.out.size)); clear k2
    go_wp2
    go_ret
    exact ⟨rfl, K2.out⟩
theorem spans_open2 {H : Type} {enc : TypeId × Value → H} {w : World} {spare : Nat → Bool} {held : Bool} {fuel : Nat} {a : Option Addr} {len cap : Nat} {x : DataW H × List MemPlace} (h : DataW.trod enc Try.prog w 0 spare held fuel 27 [.slice a len cap] = some x) :
  ∃ R : List Spn, ReadsS w (.slice a len cap) R ∧ R.length ≤ maxLen ∧ ∀ y ∈ R, y.se.size ≤ maxLen ∧ y.ho.size ≤ maxLen ∧ y.no.size ≤ maxLen := by
 obtain ⟨v, hc, R, h⟩ := spans_open h
 obtain rfl : .slice a len cap = v := by simpa using hc
 exact ⟨R, h⟩
end Go.Proofs.Ytibakmchgppndaa
/- Acts in memory; Beyond of acts. -/
namespace Go.Proofs.Ytibakmchgppndaa
open Go.RowKit

structure ActP where
 spans : List Spn
 ticks : Int
/-- One act lies at a place: its spans' slice, and its ticks. -/
def ActAt (w : World) (g o : Nat) (a : ActP) : Prop := ∃ sv, w.cell? ⟨g, o + 2, none⟩ = some sv ∧ ReadsS w sv a.spans ∧ w.cell? ⟨g, o + 3, none⟩ = some (.int .u8 a.ticks)
/-- A list of acts, as it lies. -/
def ReadsA (w : World) (v : Value) (A : List ActP) : Prop :=
 ∃ ao cap, v = .slice ao A.length cap ∧ (A = [] ∨ ∃ g o, ao = some ⟨g, o, none⟩ ∧ ∀ i a, A[i]? = some a → ActAt w g (o + i * 4) a)
/-- Acts whose numbers may be. -/
structure FitsA (A : List ActP) : Prop where
 len : A.length ≤ 9223372036854775807
 ticks : ∀ a ∈ A, 0 ≤ a.ticks ∧ a.ticks ≤ 255
 many : ∀ a ∈ A, a.spans.length ≤ 9223372036854775807
 fit : ∀ a ∈ A, ∀ m ∈ a.spans, Fits m
theorem ActAt.keptF {w w' : World} {g o : Nat} {a : ActP} (h : ActAt w g o a) (hK : Kept (fun _ => False) w w') : ActAt w' g o a := by
 obtain ⟨sv, h1, h2, h3⟩ := h
 exact ⟨sv, hK.cell h1 (fun f => f), h2.keptF hK, hK.cell h3 (fun f => f)⟩
theorem ReadsA.keptF {w w' : World} {v : Value} {A : List ActP} (h : ReadsA w v A) (hK : Kept (fun _ => False) w w') : ReadsA w' v A := by
 obtain ⟨ao, cap, rfl, h⟩ := h
 refine ⟨ao, cap, rfl, ?_⟩
 rcases h with h | ⟨g, o, rfl, h⟩
 ·exact .inl h
 ·exact .inr ⟨g, o, rfl, fun i a ha => (h i a ha).keptF hK⟩
set_option maxRecDepth 100000 in
theorem beyond_len {w : World} {v : Value} {L : List Spn} (h : ReadsS w v L) (hl : L.length ≤ 9223372036854775807) (hfit : ∀ y ∈ L, Fits y) :
  Calls Try.prog 27 #[v, .int .i64 20] w fun e w' => (e = .returned (.bool true) ∨ (e = .returned (.bool false) ∧ L.length ≤ 20)) ∧ w = w' := by
 by_cases h20 : L.length ≤ 20
 ·exact (beyond_any h hl hfit).mono fun e w' ⟨⟨r, hr⟩, hw⟩ => ⟨by subst hr; cases r; exact .inr ⟨rfl, h20⟩; exact .inl rfl, hw⟩
 ·obtain ⟨ao, cap, rfl, _⟩ := h
  have e1 : (20 : Int) < (L.length : Int) := by omega
  go_enter Try.func27, Try.ntmps27
  go_wp2
  go_ret
  exact ⟨.inl rfl, rfl⟩
set_option maxHeartbeats 4000000 in
set_option maxRecDepth 100000 in
theorem beyondA_all (k : Nat) (hk : k ≤ 1000) {w : World} {v : Value} {A : List ActP} (h : ReadsA w v A) (hf : FitsA A) :
  Calls Try.prog 6 #[v, .int .i64 (k : Int)] w fun e w' => (e = .returned (.bool true) ∨ (e = .returned (.bool false) ∧ (A.length ≤ k ∧ ∀ a ∈ A, a.spans.length ≤ 20))) ∧ w = w' := by
 obtain ⟨ao, cap, rfl, h⟩ := h
 have HR := Lib.hid h
 have HF := Lib.hid hf
 have hl := hf.len
 clear h hf
 by_cases hlen : A.length ≤ k
 ·have e1 : ¬ (k : Int) < (A.length : Int) := by omega
  go_enter Try.func6, Try.ntmps6
  go_wp2
  go_loopg [5] A.length (fun gh t wr => ∃ i : Nat, i + gh = A.length ∧ t = .int .i64 i ∧ wr = w ∧ ∀ j a, j < i → A[j]? = some a → a.spans.length ≤ 20)
  case atStart => exact ⟨0, by omega, rfl, rfl, fun j a hj => absurd hj (Nat.not_lt_zero j)⟩
  case round =>
   obtain ⟨i, hi, rfl, rfl, hok⟩ := hrel
   have JI := Lib.hid hi; have OK := Lib.hid hok
   clear hi hok
   by_cases hlt : i < A.length
   ·rcases HR.out with h0 | ⟨g, o, rfl, hc⟩
    ·rw [h0] at hlt; simp at hlt
    obtain ⟨a, ha⟩ : ∃ a, A[i]? = some a := ⟨_, List.getElem?_eq_getElem hlt⟩
    have hmem := List.mem_of_getElem? ha
    obtain ⟨sv, c2, rs, c3⟩ := hc i a ha
    have B := Lib.hid (beyond_len rs (HF.out.many a hmem) (HF.out.fit a hmem))
    have i1 : (0 : Int) ≤ (i : Int) := by omega
    have i2 : (i : Int) < (A.length : Int) := by omega
    have HA := Lib.hid ha
    clear hc ha hmem rs
    go_wp2_with fail
    refine B.out.mono ?_
    rintro e w2 ⟨rfl | ⟨rfl, hr⟩, rfl⟩
    ·go_wp2
     go_ret
     exact ⟨.inl rfl, rfl⟩
    ·have R20 := Lib.hid hr
     clear hr
     go_wp2
     go_roundg (A.length - i - 1)
     case measure => have := JI.out; omega
     case rel =>
      refine ⟨i + 1, by omega, by go_num, rfl, fun j x hj hx => ?_⟩
      rcases Nat.lt_or_ge j i with h | h
      ·exact OK.out j x h hx
      ·obtain rfl : j = i := by omega
       have := HA.out
       rw [hx] at this
       cases this
       exact R20.out
   ·have e3 : ¬ (i : Int) < (A.length : Int) := by omega
    go_wp2
    go_ret
    have F : ∀ a ∈ A, a.spans.length ≤ 20 := fun a ha => by
     obtain ⟨j, hj⟩ := List.mem_iff_getElem?.1 ha
     exact OK.out j a (by have := (List.getElem?_eq_some_iff.1 hj).1; omega) hj
    exact ⟨.inr ⟨rfl, F⟩, rfl⟩
 ·have e1 : (k : Int) < (A.length : Int) := by omega
  go_enter Try.func6, Try.ntmps6
  go_wp2
  go_ret
  exact ⟨.inl rfl, rfl⟩
end Go.Proofs.Ytibakmchgppndaa
/- What a model comes to by acts, and what is told of it: plain lists. -/
namespace Go.Proofs.Ytibakmchgppndaa
open Go.RowKit

def runA : List ActP → Int → List Spn → Int × List Spn
 | [], now, M => (now, M)
 | a :: t, now, M => runA t (now + a.ticks) (takeF (now + a.ticks) a.spans M []).1
theorem drop_act {A : List ActP} {i : Nat} {a : ActP} (h : A[i]? = some a) : A.drop i = a :: A.drop (i + 1) := by
 obtain ⟨hl, e⟩ := List.getElem?_eq_some_iff.1 h
 rw [← e]; exact List.drop_eq_getElem_cons hl
/-- Rising by trace and ID. -/
def StrictS (L : List Spn) : Prop := L.Pairwise keyLt
theorem strict_of {L : List Spn} (h : SortedS L) (hn : (L.map keyOf).Nodup) : StrictS L := by
 have hp : L.Pairwise (fun x y => keyOf x ≠ keyOf y) := List.pairwise_map.1 hn
 refine (h.and hp).imp (fun {x y} hxy => ?_)
 obtain ⟨h1, h2⟩ := hxy
 unfold keyLt at *
 have h3 : ¬ (x.tr = y.tr ∧ x.id = y.id) := fun e => h2 (by unfold keyOf; rw [e.1, e.2])
 omega
theorem lt_asymm {x y : Spn} (h1 : keyLt x y) (h2 : keyLt y x) : False := by unfold keyLt at *; omega
theorem strict_unique : ∀ {a b : List Spn}, a.Perm b → StrictS a → StrictS b → a = b
 | [], b, hp, _, _ => hp.nil_eq
 | x :: r, [], hp, _, _ => absurd hp.symm.nil_eq (by simp)
 | x :: r, y :: s, hp, h1, h2 => by
  obtain ⟨p1, q1⟩ := List.pairwise_cons.1 h1
  obtain ⟨p2, q2⟩ := List.pairwise_cons.1 h2
  have hxy : x = y := by
   rcases List.mem_cons.1 (hp.subset List.mem_cons_self) with e | hx
   ·exact e
   ·rcases List.mem_cons.1 (hp.symm.subset List.mem_cons_self) with e | hy
    ·exact e.symm
    ·exact (lt_asymm (p1 y hy) (p2 x hx)).elim
  subst hxy
  rw [strict_unique ((List.perm_cons x).1 hp) q1 q2]
theorem Held.live {M : List Spn} (h : Held M) (now : Int) : Held (liveF now M) :=
 ⟨fun m hm => h.may m (List.mem_filter.1 hm).1, (List.filter_sublist.map keyOf).nodup h.once⟩
theorem Held.perm {M L : List Spn} (h : Held M) (hp : L.Perm M) : Held L :=
 ⟨fun m hm => h.may m (hp.subset hm), (hp.map keyOf).nodup_iff.2 h.once⟩
theorem live_strict {M R : List Spn} {now : Int} (h : Held M) (hp : R.Perm (liveF now M)) (hs : SortedS R) : StrictS R := strict_of hs ((h.live now).perm hp).once
theorem live_later {now later : Int} (h : now ≤ later) (M : List Spn) : liveF later (liveF now M) = liveF later M := by
 unfold liveF
 rw [List.filter_filter]
 congr 1
 funext m
 unfold lateB
 by_cases c : (60 : Int) ≤ later - m.st
 ·simp [c]
 ·have : ¬ (60 : Int) ≤ now - m.st := by omega
  simp [c, this]
/-- What is there later is what was there, less what has expired. -/
theorem live_next {M R1 R3 : List Spn} {now later : Int} (hh : Held M) (h : now ≤ later) (p1 : R1.Perm (liveF now M)) (s1 : SortedS R1) (p3 : R3.Perm (liveF later M)) (s3 : SortedS R3) : R3 = liveF later R1 := by
 refine strict_unique ?_ (live_strict hh p3 s3) ?_
 ·have := p1.filter (fun m : Spn => !lateB m.st later)
  rw [show (liveF now M).filter (fun m : Spn => !lateB m.st later) = liveF later M from live_later h M] at this
  exact p3.trans this.symm
 ·exact List.Pairwise.filter _ (live_strict hh p1 s1)
theorem live_mem {M R : List Spn} {now : Int} (hp : R.Perm (liveF now M)) : ∀ s ∈ R, s ∈ M ∧ lateB s.st now = false := fun s hs => by
 have := List.mem_filter.1 (hp.subset hs)
 exact ⟨this.1, by simpa using this.2⟩
theorem strict_step {R : List Spn} (h : StrictS R) {i : Nat} {x y : Spn} (hx : R[i]? = some x) (hy : R[i + 1]? = some y) : keyLt x y := by
 obtain ⟨l1, e1⟩ := List.getElem?_eq_some_iff.1 hx
 obtain ⟨l2, e2⟩ := List.getElem?_eq_some_iff.1 hy
 have := (List.pairwise_iff_getElem.1 h) i (i + 1) l1 l2 (by omega)
 rw [e1, e2] at this
 exact this
theorem ReadsS.kept_map {w w' : World} {v : Value} {L : List Spn} {b : Nat} {X : List KV} (h : ReadsS w v L) (hm : MapIs w b X) (hK : Kept (fun k => k = b) w w') : ReadsS w' v L := by
 obtain ⟨ao, cap, rfl, h⟩ := h
 refine ⟨ao, cap, rfl, ?_⟩
 cases L with
 | nil => exact .inl rfl
 | cons m t =>
  rcases h with h | ⟨g, o, rfl, hc⟩
  ·cases h
  ·have hg : ¬ g = b := fun e => by
    have h0 := hc 0 (.int .i64 m.tr) rfl
    rw [e, hm.not_cell] at h0
    cases h0
   exact .inr ⟨g, o, rfl, fun j u hu => hK.cell (hc j u hu) hg⟩
theorem live_take (now : Int) (R : List Spn) {i : Nat} {x : Spn} (h : R[i]? = some x) : liveF now (R.take (i + 1)) = liveF now (R.take i) ++ liveF now [x] := by
 rw [List.take_add_one, h]
 unfold liveF
 rw [List.filter_append]
 rfl
theorem live_len (now : Int) (R : List Spn) : (liveF now R).length ≤ R.length := List.length_filter_le _ _
end Go.Proofs.Ytibakmchgppndaa
/- A name by its bytes: what the library's search by runes comes to. Plain law. -/
namespace Go.Proofs.Ytibakmchgppndaa
open Go.RowKit Go.Lib

theorem decode_small {s : ByteArray} {i : Nat} (h : (s.get! i).toNat < 128) : Utf8.decode s i = ((s.get! i).toNat, 1) := by
 unfold Utf8.decode
 simp [h]
theorem decode_great {s : ByteArray} {i : Nat} (h : ¬ (s.get! i).toNat < 128) : 128 ≤ (Utf8.decode s i).1 := by
 unfold Utf8.decode
 simp only [Nat.add_zero]
 rw [if_neg h]
 (repeat' split) <;> first | omega | (simp [Utf8.runeError]; done) | (simp only [Bool.and_eq_true, decide_eq_true_eq] at *; omega)
def okAt (s : ByteArray) (i : Nat) : Prop := 33 ≤ (s.get! i).toNat ∧ (s.get! i).toNat ≤ 126
theorem odd_small {c : Nat} : oddP c = false ↔ (33 ≤ c ∧ c ≤ 126) := by
 unfold oddP; simp; omega
theorem odd_decode (s : ByteArray) (i : Nat) : oddP (Utf8.decode s i).1 = false ↔ okAt s i := by
 unfold okAt
 by_cases h : (s.get! i).toNat < 128
 ·rw [decode_small h, odd_small]
 ·have := decode_great h
  rw [odd_small]; omega
theorem idx_good {s : ByteArray} : ∀ (f pos : Nat), (∀ i, pos ≤ i → i < s.size → okAt s i) → idxFuncFrom oddP true s f pos = -1
 | 0, pos, _ => rfl
 | f + 1, pos, h => by
  unfold idxFuncFrom
  by_cases hp : pos < s.size
  ·have h0 := h pos (Nat.le_refl _) hp
   have e := (odd_decode s pos).2 h0
   rw [if_pos hp, e, if_neg (by simp), decode_small (by have := h0.2; omega)]
   exact idx_good f (pos + 1) (fun i hi => h i (by omega))
  ·rw [if_neg hp]
theorem idx_bad {s : ByteArray} {i : Nat} (hi : i < s.size) (hb : ¬ okAt s i) : ∀ (f pos : Nat), pos ≤ i → s.size ≤ pos + f → 0 ≤ idxFuncFrom oddP true s f pos
 | 0, pos, h1, h2 => by omega
 | f + 1, pos, h1, h2 => by
  unfold idxFuncFrom
  rw [if_pos (by omega)]
  cases hp : oddP (Utf8.decode s pos).1 with
  | true => simp
  | false =>
   have h0 := (odd_decode s pos).1 hp
   have hne : pos ≠ i := fun e => hb (e ▸ h0)
   rw [if_neg (by simp), decode_small (by have := h0.2; omega)]
   exact idx_bad hi hb f (pos + 1) (by omega) (by omega)
theorem name_bad {s : ByteArray} {i : Nat} (hi : i < s.size) (hb : ¬ okAt s i) : nameB s = false := by
 have h := idx_bad hi hb s.size 0 (Nat.zero_le _) (by omega)
 unfold nameB idxFunc
 simp [h]
theorem name_good {s : ByteArray} (h1 : 1 ≤ s.size) (h2 : s.size ≤ 12) (h : ∀ i, i < s.size → okAt s i) : nameB s = true := by
 have e := idx_good s.size 0 (fun i _ hi => h i hi)
 have e2 : decide (s.size ≠ 0) = true := by rw [decide_eq_true_eq]; omega
 unfold nameB idxFunc
 rw [e, e2, decide_eq_true h2]
 rfl
theorem name_short {s : ByteArray} (h : s.size = 0) : nameB s = false := by unfold nameB; simp [h]
theorem name_long {s : ByteArray} (h : 12 < s.size) : nameB s = false := by
 unfold nameB
 have : decide (s.size ≤ 12) = false := by simp; omega
 rw [this]; simp
end Go.Proofs.Ytibakmchgppndaa
/- Check, Expired and Less as the document has them. -/
namespace Go.Proofs.Ytibakmchgppndaa
open Go.RowKit

theorem byte_at {s : ByteArray} {i : Nat} (h : i < s.size) : (s.get! i) = s[i]'h := by
 simp [ByteArray.get!, getElem!_pos, h]
 rfl
set_option maxHeartbeats 2000000 in
set_option maxRecDepth 100000 in
theorem rname_all (s : ByteArray) (hs : s.size ≤ 9223372036854775807) (w : World) : Calls Try.prog 43 #[.string s] w fun e w' => e = .returned (.bool (nameB s)) ∧ w = w' := by
 by_cases h0 : s.size = 0
 ·rw [name_short h0]
  have i0 : (s.size : Int) < 1 := by omega
  go_enter Try.func43, Try.ntmps43
  go_wp2
  go_ret
  exact ⟨rfl, rfl⟩
 ·by_cases h12 : 12 < s.size
  ·rw [name_long h12]
   have i0 : ¬ (s.size : Int) < 1 := by omega
   have i1 : (12 : Int) < (s.size : Int) := by omega
   go_enter Try.func43, Try.ntmps43
   go_wp2
   go_ret
   exact ⟨rfl, rfl⟩
  ·have i0 : ¬ (s.size : Int) < 1 := by omega
   have i1 : ¬ (12 : Int) < (s.size : Int) := by omega
   go_enter Try.func43, Try.ntmps43
   go_wp2
   go_loopg [3] s.size (fun gh t wr => ∃ i : Nat, i + gh = s.size ∧ t = .int .i64 i ∧ wr = w ∧ ∀ j, j < i → okAt s j)
   case atStart => exact ⟨0, by omega, rfl, rfl, fun j h => absurd h (Nat.not_lt_zero j)⟩
   case round =>
    obtain ⟨i, ji, rfl, rfl, hok⟩ := hrel
    have JI := Lib.hid ji; have OK := Lib.hid hok
    clear ji hok
    by_cases hlt : i < s.size
    ·have e := byte_at hlt
     by_cases hb : okAt s i
     ·have b1 := hb.1
      have b2 := hb.2
      rw [e] at b1 b2
      have HB := Lib.hid hb
      have j0 : (0 : Int) ≤ (i : Int) := by omega
      have j1 : (i : Int) < (s.size : Int) := by omega
      have c1 : ¬ ((s[i].toNat : Nat) : Int) < 33 := by omega
      have c2 : ¬ (126 : Int) < ((s[i].toNat : Nat) : Int) := by omega
      clear e hb b1 b2
      go_wp2
      go_roundg (s.size - i - 1)
      case measure => have := JI.out; omega
      case rel =>
       refine ⟨i + 1, by omega, by go_num, rfl, fun j hj => ?_⟩
       rcases Nat.lt_or_ge j i with h | h
       ·exact OK.out j h
       ·obtain rfl : j = i := by omega
        exact HB.out
     ·have NB := Lib.hid (name_bad hlt hb)
      unfold okAt at hb
      rw [e] at hb
      have j0 : (0 : Int) ≤ (i : Int) := by omega
      have j1 : (i : Int) < (s.size : Int) := by omega
      by_cases c : ((s[i].toNat : Nat) : Int) < 33
      ·clear e hb
       go_wp2
       go_ret
       exact ⟨by rw [NB.out]; rfl, rfl⟩
      ·have c2 : (126 : Int) < ((s[i].toNat : Nat) : Int) := by omega
       clear e hb
       go_wp2
       go_ret
       exact ⟨by rw [NB.out]; rfl, rfl⟩
    ·have NG := Lib.hid (name_good (s := s) (by omega) (by omega) (fun j hj => OK.out j (by omega)))
     have j1 : ¬ (i : Int) < (s.size : Int) := by omega
     go_wp2
     go_ret
     exact ⟨by rw [NG.out]; rfl, rfl⟩
theorem between_all (n a b : Int) (w : World) : Calls Try.prog 82 #[.int .i64 n, .int .i64 a, .int .i64 b] w fun e w' => e = .returned (.bool (decide (a ≤ n) && decide (n ≤ b))) ∧ w = w' := by
 by_cases h1 : a ≤ n
 ·by_cases h2 : n ≤ b
  ·go_enter Try.func82, Try.ntmps82
   go_wp2
   go_ret
   exact ⟨by simp [h1, h2], rfl⟩
  ·go_enter Try.func82, Try.ntmps82
   go_wp2
   go_ret
   exact ⟨by simp [h2], rfl⟩
 ·go_enter Try.func82, Try.ntmps82
  go_wp2
  go_ret
  exact ⟨by rw [decide_eq_false (by omega : ¬ a ≤ n)]; rfl, rfl⟩
theorem rexpired_all (m : Spn) (now : Int) (h0 : 0 ≤ m.st) (h1 : m.st ≤ 1073741824) (h2 : 0 ≤ now) (h3 : now ≤ 4294967296) (w : World) : Calls Try.prog 36 #[aggS m, .int .i64 now] w fun e w' => e = .returned (.bool (lateB m.st now)) ∧ Kept (fun _ => False) w w' := by
 unfold aggS
 obtain ⟨st, hst⟩ : ∃ s, m.st = s := ⟨_, rfl⟩
 rw [hst] at h0 h1 ⊢
 by_cases h : st ≤ now
 ·go_enter Try.func36, Try.ntmps36
  go_wp2
  go_ret
  exact ⟨by unfold lateB; rfl, (Kept.refl _ w).alloc _⟩
 ·go_enter Try.func36, Try.ntmps36
  go_wp2
  go_ret
  have e : lateB st now = false := by unfold lateB; simp; omega
  exact ⟨by rw [e]; rfl, (Kept.refl _ w).alloc _⟩
set_option maxRecDepth 100000 in
theorem rless_all (x y : Spn) (w : World) : Calls Try.prog 51 #[aggS x, aggS y] w fun e w' => e = .returned (.bool (decide (keyLt x y))) ∧ Kept (fun _ => False) w w' := by
 unfold aggS
 have kk : ∀ o1 o2, Kept (fun _ => False) w ((w.alloc o1).alloc o2) := fun o1 o2 => ((Kept.refl _ w).alloc _).alloc _
 have KK := Lib.hid kk
 clear kk
 by_cases h1 : x.tr < y.tr
 ·have e : decide (keyLt x y) = true := by rw [decide_eq_true_eq]; unfold keyLt; omega
  rw [e]; clear e
  go_enter Try.func51, Try.ntmps51
  go_wp2
  go_ret
  exact ⟨rfl, KK.out _ _⟩
 ·by_cases h2 : x.tr = y.tr
  ·by_cases h3 : x.id < y.id
   ·have e : decide (keyLt x y) = true := by rw [decide_eq_true_eq]; unfold keyLt; omega
    rw [e]; clear e
    go_enter Try.func51, Try.ntmps51
    go_wp2
    go_ret
    exact ⟨rfl, KK.out _ _⟩
   ·have e : decide (keyLt x y) = false := by rw [decide_eq_false_iff_not]; unfold keyLt; omega
    rw [e]; clear e
    go_enter Try.func51, Try.ntmps51
    go_wp2
    go_ret
    exact ⟨rfl, KK.out _ _⟩
  ·have h4 : (x.tr == y.tr) = false := by simp; omega
   have e : decide (keyLt x y) = false := by rw [decide_eq_false_iff_not]; unfold keyLt; omega
   rw [e]; clear e
   go_enter Try.func51, Try.ntmps51
   go_wp2
   go_ret
   exact ⟨rfl, KK.out _ _⟩
def mayB (m : Spn) : Bool := okJ m 0 && (okJ m 1 && (okJ m 2 && (nameB m.se && (nameB m.ho && (okJ m 3 && (okJ m 4 && decide (m.no.size ≤ 24)))))))
theorem mayB_eq (m : Spn) : mayB m = chkB m := by
 unfold mayB chkB
 cases okJ m 0 <;> cases okJ m 1 <;> cases okJ m 2 <;> cases okJ m 3 <;> cases okJ m 4 <;> cases nameB m.se <;> cases nameB m.ho <;> rfl
set_option maxHeartbeats 4000000 in
set_option maxRecDepth 100000 in
theorem may_all (m : Spn) (hs : m.se.size ≤ 9223372036854775807) (hh : m.ho.size ≤ 9223372036854775807) (hn : m.no.size ≤ 9223372036854775807) (w : World) : Calls Try.prog 70 #[aggS m] w fun e w' => e = .returned (.bool (chkB m)) ∧ Kept (fun _ => False) w w' := by
 rw [← mayB_eq]
 have kk : ∀ o1, Kept (fun _ => False) w (w.alloc o1) := fun o1 => (Kept.refl _ w).alloc _
 have KK := Lib.hid kk
 clear kk
 have C0 := Lib.hid (show ∀ W : World, Calls Try.prog 82 #[.int .i64 m.tr, .int .i64 1, .int .i64 2147483647] W fun e w' => e = .returned (.bool (okJ m 0)) ∧ W = w' from between_all m.tr 1 2147483647)
 have C1 := Lib.hid (show ∀ W : World, Calls Try.prog 82 #[.int .i64 m.id, .int .i64 1, .int .i64 2147483647] W fun e w' => e = .returned (.bool (okJ m 1)) ∧ W = w' from between_all m.id 1 2147483647)
 have C2 := Lib.hid (show ∀ W : World, Calls Try.prog 82 #[.int .i64 m.pa, .int .i64 0, .int .i64 2147483647] W fun e w' => e = .returned (.bool (okJ m 2)) ∧ W = w' from between_all m.pa 0 2147483647)
 have C3 := Lib.hid (show ∀ W : World, Calls Try.prog 43 #[.string m.se] W fun e w' => e = .returned (.bool (nameB m.se)) ∧ W = w' from rname_all m.se hs)
 have C4 := Lib.hid (show ∀ W : World, Calls Try.prog 43 #[.string m.ho] W fun e w' => e = .returned (.bool (nameB m.ho)) ∧ W = w' from rname_all m.ho hh)
 have C5 := Lib.hid (show ∀ W : World, Calls Try.prog 82 #[.int .i64 m.st, .int .i64 0, .int .i64 1073741824] W fun e w' => e = .returned (.bool (okJ m 3)) ∧ W = w' from between_all m.st 0 1073741824)
 have C6 := Lib.hid (show ∀ W : World, Calls Try.prog 82 #[.int .i64 m.du, .int .i64 0, .int .i64 1073741824] W fun e w' => e = .returned (.bool (okJ m 4)) ∧ W = w' from between_all m.du 0 1073741824)
 unfold aggS mayB
 obtain ⟨b0, h0⟩ : ∃ c, okJ m 0 = c := ⟨_, rfl⟩
 rw [h0] at C0 ⊢
 clear h0
 obtain ⟨b1, h1⟩ : ∃ c, okJ m 1 = c := ⟨_, rfl⟩
 rw [h1] at C1 ⊢
 clear h1
 obtain ⟨b2, h2⟩ : ∃ c, okJ m 2 = c := ⟨_, rfl⟩
 rw [h2] at C2 ⊢
 clear h2
 obtain ⟨b3, h3⟩ : ∃ c, nameB m.se = c := ⟨_, rfl⟩
 rw [h3] at C3 ⊢
 clear h3
 obtain ⟨b4, h4⟩ : ∃ c, nameB m.ho = c := ⟨_, rfl⟩
 rw [h4] at C4 ⊢
 clear h4
 obtain ⟨b5, h5⟩ : ∃ c, okJ m 3 = c := ⟨_, rfl⟩
 rw [h5] at C5 ⊢
 clear h5
 obtain ⟨b6, h6⟩ : ∃ c, okJ m 4 = c := ⟨_, rfl⟩
 rw [h6] at C6 ⊢
 clear h6
 go_enter Try.func70, Try.ntmps70
 go_wp2_with fail
 refine (C0.out _).mono ?_
 rintro e w0 ⟨rfl, rfl⟩
 cases b0 with
 | false =>
  go_wp2
  go_ret
  exact ⟨rfl, KK.out _⟩
 | true =>
  go_wp2_with fail
  refine (C1.out _).mono ?_
  rintro e w1 ⟨rfl, rfl⟩
  cases b1 with
  | false =>
   go_wp2
   go_ret
   exact ⟨rfl, KK.out _⟩
  | true =>
   go_wp2_with fail
   refine (C2.out _).mono ?_
   rintro e w2 ⟨rfl, rfl⟩
   cases b2 with
   | false =>
    go_wp2
    go_ret
    exact ⟨rfl, KK.out _⟩
   | true =>
    go_wp2_with fail
    refine (C3.out _).mono ?_
    rintro e w3 ⟨rfl, rfl⟩
    cases b3 with
    | false =>
     go_wp2
     go_ret
     exact ⟨rfl, KK.out _⟩
    | true =>
     go_wp2_with fail
     refine (C4.out _).mono ?_
     rintro e w4 ⟨rfl, rfl⟩
     cases b4 with
     | false =>
      go_wp2
      go_ret
      exact ⟨rfl, KK.out _⟩
     | true =>
      go_wp2_with fail
      refine (C5.out _).mono ?_
      rintro e w5 ⟨rfl, rfl⟩
      cases b5 with
      | false =>
       go_wp2
       go_ret
       exact ⟨rfl, KK.out _⟩
      | true =>
       go_wp2_with fail
       refine (C6.out _).mono ?_
       rintro e w6 ⟨rfl, rfl⟩
       cases b6 with
       | false =>
        go_wp2
        go_ret
        exact ⟨rfl, KK.out _⟩
       | true =>
        by_cases h24 : (m.no.size : Int) ≤ 24
        ·have e : decide (m.no.size ≤ 24) = true := by simp; omega
         have E := Lib.hid e
         clear e
         go_wp2
         go_ret
         exact ⟨by rw [E.out]; rfl, KK.out _⟩
        ·have e : decide (m.no.size ≤ 24) = false := by simp; omega
         have E := Lib.hid e
         clear e
         go_wp2
         go_ret
         exact ⟨by rw [E.out]; exact congrArg (fun b => Ending.returned (.bool b)) (decide_eq_false (by omega)), KK.out _⟩
set_option maxRecDepth 100000 in
theorem rcheck_all (m : Spn) (hs : m.se.size ≤ 9223372036854775807) (hh : m.ho.size ≤ 9223372036854775807) (hn : m.no.size ≤ 9223372036854775807) (w : World) : Calls Try.prog 50 #[aggS m] w fun e w' => e = .returned (.int .i64 (errN (chkB m))) ∧ Kept (fun _ => False) w w' := by
 have M := Lib.hid (may_all m hs hh hn)
 obtain ⟨b, hb⟩ : ∃ c, chkB m = c := ⟨_, rfl⟩
 rw [hb] at M ⊢
 clear hb
 have K0 := Lib.hid ((Kept.refl (fun _ => False) w).alloc (.cells #[.int .i64 m.tr, .int .i64 m.id, .int .i64 m.pa, .string m.se, .string m.ho, .int .i64 m.st, .int .i64 m.du, .string m.no] 37))
 unfold aggS at M ⊢
 go_enter Try.func50, Try.ntmps50
 go_wp2_with fail
 refine (M.out _).mono ?_
 rintro e w2 ⟨rfl, k2⟩
 have K2 := Lib.hid (keptFF K0.out k2)
 clear k2
 cases b with
 | false =>
  go_wp2
  go_ret
  exact ⟨rfl, K2.out⟩
 | true =>
  go_wp2
  go_ret
  exact ⟨rfl, K2.out⟩
end Go.Proofs.Ytibakmchgppndaa
/- spoorref21.put: a span put into a list by trace and ID. -/
namespace Go.Proofs.Ytibakmchgppndaa
open Go.RowKit

theorem wpList_appG {P : Program} {ops : Array Oper} {o : Oper} {a : Act} {w : World} {rest : List Oper} {Q : Exit → Act → World → Prop} (hgd : o.guard = none) (s x : Operand) (t : TypeId)
  (ho : o.op = .call { callee := .builtin .append, args := #[s, x], argTypes := #[t, t] })
  (base : Nat) (e : TypeId) (i : TypeInfo) (z : Value) (size bytes : Nat) (ht : P.underlying t = some (.slice e)) (hi : P.info? e = some i) (hz : i.zero = some z)
  (hsize : i.size = size) (hby : i.bytes = bytes) (hzs : z.cells.size = size) (hsz : 0 < size)
  (v : Value) (n : Nat) (xs : List Value) (hs : a.eval s = v) (hown : w.ownsRow base e size v n xs)
  (m : Nat) (news : List Value) (xv : Value) (hxv : a.eval x = xv) (hx : Src w xv m news) (hl : news.length = m * size) (h1 : ∀ u ∈ news, u.oneCell' = true)
  (h63 : n + m ≤ maxLen) (hbytes : (n + m) * bytes ≤ 140737488355328) (hbase : base ≤ w.heap.size)
  (h : ∀ ao' cap' w', w'.ownsRow base e size (.slice ao' (n + m) cap') (n + m) (xs ++ news) → Kept (fun k => v.ownBlock = some k) w w' → ((Value.slice ao' (n + m) cap').ownBlock = v.ownBlock ∨ (Value.slice ao' (n + m) cap').ownBlock = some w.heap.size) → wpList P ops Q rest (a.put o.dst (.slice ao' (n + m) cap')) w') : wpList P ops Q (o :: rest) a w := by
 refine wpList_plain hgd fun K hK => ?_
 have := step_appG (ops := ops) (E := False) (Q := Q) (K := K) hgd s x t ho base e i z size bytes ht hi hz hsize hby hzs hsz v n xs hs hown m news xv hxv hx hl h1 h63 hbytes hbase (fun ao' cap' w' a1 a2 a3 => hK _ _ (h ao' cap' w' a1 a2 a3))
 rwa [if_pos (by simp [Region.wanted, hgd])] at this
theorem own_lo {w : World} {b0 b1 e size : Nat} {v : Value} {n : Nat} {xs : List Value} (h : w.ownsRow b1 e size v n xs) (hb : b0 ≤ b1) : w.ownsRow b0 e size v n xs := by
 obtain ⟨h1, h2⟩ := h
 refine ⟨h1, ?_⟩
 rcases h2 with h2 | ⟨g, cap, cur, rfl, hg, rest⟩
 ·exact .inl h2
 ·exact .inr ⟨g, cap, cur, rfl, Nat.le_trans hb hg, rest⟩
theorem stopH {p : Prop} (h : True → p) : p := h trivial
/-- How many come ahead of it. -/
def posR (s : Spn) : List Spn → Nat
 | [] => 0
 | m :: t => if keyLt m s then posR s t + 1 else 0
def sameAt (s : Spn) (L : List Spn) (k : Nat) : Prop := ∃ x, L[k]? = some x ∧ keyOf x = keyOf s
open Classical in
noncomputable def putR (s : Spn) (L : List Spn) : List Spn := L.take (posR s L) ++ [s] ++ L.drop (if sameAt s L (posR s L) then posR s L + 1 else posR s L)
theorem pos_eq (s : Spn) : ∀ (L : List Spn) (k : Nat), k ≤ L.length → (∀ j x, j < k → L[j]? = some x → keyLt x s) → (∀ x, L[k]? = some x → ¬ keyLt x s) → posR s L = k
 | [], k, h, _, _ => by simp at h; subst h; rfl
 | m :: t, 0, _, _, h2 => by rw [posR, if_neg (h2 m rfl)]
 | m :: t, k + 1, h, h1, h2 => by
  rw [posR, if_pos (h1 0 m (by omega) rfl), pos_eq s t k (by simpa using h) (fun j x hj hx => h1 (j + 1) x (by omega) (by simpa using hx)) (fun x hx => h2 x (by simpa using hx))]
theorem put_at {s : Spn} {L : List Spn} {k : Nat} (h : posR s L = k) (hn : ¬ sameAt s L k) : putR s L = L.take k ++ [s] ++ L.drop k := by unfold putR; rw [h, if_neg hn]
theorem put_same {s : Spn} {L : List Spn} {k : Nat} (h : posR s L = k) (hn : sameAt s L k) : putR s L = L.take k ++ [s] ++ L.drop (k + 1) := by unfold putR; rw [h, if_pos hn]
set_option maxHeartbeats 16000000 in
set_option maxRecDepth 100000 in
theorem put_all {w : World} {base : Nat} {v : Value} {L : List Spn} (s : Spn) (h : w.ownsRow base 37 8 v L.length (cellsS L)) (hl : L.length ≤ 1000000000) :
  Calls Try.prog 37 #[v, aggS s] w fun e w' => ∃ v', e = .returned v' ∧ w'.ownsRow w.heap.size 37 8 v' (putR s L).length (cellsS (putR s L)) ∧ Kept (fun _ => False) w w' := by
 obtain ⟨i0, hi0, hz0, hz1, hz2⟩ := info_parts inf37
 obtain ⟨la, cap, rfl⟩ := own_slice h
 obtain ⟨n, hn⟩ : ∃ n, L.length = n := ⟨_, rfl⟩
 rw [hn] at h hl ⊢
 have HLN := Lib.hid hn
 obtain ⟨wb0, hwb⟩ : ∃ q, w.heap.size = q := ⟨_, rfl⟩
 rw [hwb]
 unfold aggS
 go_enter Try.func37, Try.ntmps37
 go_wp2
 obtain ⟨wB, hwB⟩ : ∃ W, w.alloc (.cells #[.int .i64 s.tr, .int .i64 s.id, .int .i64 s.pa, .string s.se, .string s.ho, .int .i64 s.st, .int .i64 s.du, .string s.no] 37) = W := ⟨_, rfl⟩
 have KB := Lib.hid (show Kept (fun _ => False) w wB by rw [← hwB]; exact (Kept.refl _ w).alloc _)
 obtain ⟨sb, hsb⟩ : ∃ q, wb0 = q := ⟨_, rfl⟩
 have SBX := Lib.hid (show SpanAt wB sb s by rw [← hwB, ← hsb, ← hwb]; exact SpanAt.new)
 have WBE := Lib.hid (show wB.heap.size = wb0 + 1 by rw [← hwB, ← hwb]; exact Array.size_push _)
 have WB := Lib.hid (fun (W : World) (K : Kept (fun _ => False) wB W) => (show wb0 + 1 ≤ W.heap.size by have := K.size; have := WBE.out; omega))
 have OL := Lib.hid (own_kept h KB.out (fun _ _ f => f))
 rw [hwB, hsb]
 clear hwB hsb h hn hwb
 go_loopg [5] (n + 1) (fun gh t wr => ∃ k : Nat, k + gh = n + 1 ∧ k ≤ n ∧ t = .int .i64 k ∧ Kept (fun _ => False) wB wr ∧ ∀ j x, j < k → L[j]? = some x → keyLt x s)
 case atStart => exact ⟨0, by omega, Nat.zero_le _, rfl, Kept.refl _ _, fun j x hj => absurd hj (Nat.not_lt_zero j)⟩
 case round =>
  obtain ⟨k, jk, jn, rfl, kr, hless⟩ := hrel
  have JK := Lib.hid jk; have KR := Lib.hid kr; have LS := Lib.hid hless
  clear jk kr hless
  have k0 : (0 : Int) ≤ (k : Int) := by omega
  by_cases hkn : k < n
  ·have k1 : (k : Int) < (n : Int) := by omega
   have k2 : (k : Int) ≤ 1000000000 := by omega
   obtain ⟨x, hx⟩ : ∃ x, L[k]? = some x := ⟨_, List.getElem?_eq_getElem (by rw [HLN.out]; exact hkn)⟩
   obtain ⟨g, rfl, hc⟩ : ∃ g, la = some ⟨g, 0, none⟩ ∧ ∀ j u, (cellsS L)[j]? = some u → wB.cell? ⟨g, j, none⟩ = some u := by
    rcases row_form OL.out with ⟨h1, h2⟩ | ⟨g, c, h1, _, _, _, hc⟩
    ·omega
    ·cases h1; exact ⟨g, rfl, hc⟩
   have rB := ReadsS.at (o := 0) (fun j u hu => by rw [Nat.zero_add]; exact hc j u hu) hx
   rw [Nat.zero_add] at rB
   have RB := Lib.hid rB
   have rx : (wr.cell? ⟨g, k * 8, none⟩ = some (.int .i64 x.tr) ∧ wr.cell? ⟨g, k * 8 + 1, none⟩ = some (.int .i64 x.id) ∧ wr.cell? ⟨g, k * 8 + 2, none⟩ = some (.int .i64 x.pa) ∧ wr.cell? ⟨g, k * 8 + 3, none⟩ = some (.string x.se) ∧ wr.cell? ⟨g, k * 8 + 4, none⟩ = some (.string x.ho) ∧ wr.cell? ⟨g, k * 8 + 5, none⟩ = some (.int .i64 x.st) ∧ wr.cell? ⟨g, k * 8 + 6, none⟩ = some (.int .i64 x.du) ∧ wr.cell? ⟨g, k * 8 + 7, none⟩ = some (.string x.no)) := by
    obtain ⟨x0, x1, x2, x3, x4, x5, x6, x7⟩ := rB
    exact ⟨KR.out.cell x0 (fun f => f), KR.out.cell x1 (fun f => f), KR.out.cell x2 (fun f => f), KR.out.cell x3 (fun f => f), KR.out.cell x4 (fun f => f), KR.out.cell x5 (fun f => f), KR.out.cell x6 (fun f => f), KR.out.cell x7 (fun f => f)⟩
   have HX := Lib.hid hx
   clear rB hc hx
   by_cases hlt : keyLt x s
   ·have LE := Lib.hid (rless_all x s)
    rw [decide_eq_true hlt] at LE
    unfold aggS at LE
    have HLT := Lib.hid hlt
    clear hlt
    go_wp2
    refine wp_region_held_drew (S := (fun w' => (w'.cell? ⟨g, k * 8, none⟩ = some (.int .i64 x.tr) ∧ w'.cell? ⟨g, k * 8 + 1, none⟩ = some (.int .i64 x.id) ∧ w'.cell? ⟨g, k * 8 + 2, none⟩ = some (.int .i64 x.pa) ∧ w'.cell? ⟨g, k * 8 + 3, none⟩ = some (.string x.se) ∧ w'.cell? ⟨g, k * 8 + 4, none⟩ = some (.string x.ho) ∧ w'.cell? ⟨g, k * 8 + 5, none⟩ = some (.int .i64 x.st) ∧ w'.cell? ⟨g, k * 8 + 6, none⟩ = some (.int .i64 x.du) ∧ w'.cell? ⟨g, k * 8 + 7, none⟩ = some (.string x.no)) ∧ SpanAt w' sb s)) (by kernel_rfl) ?_ (fun hHeld => ?_)
    ·exact ⟨rx, SBX.out.keptF KR.out.drew⟩
    refine tW 0 opAt0 hHeld ?_
    (try simp only [Act.put]); try simp only [z2, List.set]
    refine tW 1 opAt1 hHeld ?_
    (try simp only [Act.put]); try simp only [z2, List.set]
    refine tW 2 opAt2 hHeld ?_
    (try simp only [Act.put]); try simp only [z2, List.set]
    refine tW 3 opAt3 hHeld ?_
    (try simp only [Act.put]); try simp only [z2, List.set]
    refine tW 4 opAt4 hHeld ?_
    (try simp only [Act.put]); try simp only [z2, List.set]
    refine tW 5 opAt5 hHeld ?_
    (try simp only [Act.put]); try simp only [z2, List.set]
    refine tW 6 opAt6 hHeld ?_
    (try simp only [Act.put]); try simp only [z2, List.set]
    refine tW 7 opAt7 hHeld ?_
    (try simp only [Act.put]); try simp only [z2, List.set]
    refine tH (v := ?_) 8 opAt8 ?_ hHeld ?_
    case refine_2 => (intro w hSw; (try dsimp only at hSw); obtain ⟨x0, x1, x2, x3, x4, x5, x6, x7⟩ := hSw.1; clear hSw; go_simp; all_goals (with_reducible rfl))
    (try simp only [Act.put]); try simp only [z2, List.set]
    refine tH (v := ?_) 9 opAt9 ?_ hHeld ?_
    case refine_2 => (intro w hSw; (try dsimp only at hSw); have s0 := hSw.2 0 _ rfl; have s1 := hSw.2 1 _ rfl; have s2 := hSw.2 2 _ rfl; have s3 := hSw.2 3 _ rfl; have s4 := hSw.2 4 _ rfl; have s5 := hSw.2 5 _ rfl; have s6 := hSw.2 6 _ rfl; have s7 := hSw.2 7 _ rfl; clear hSw; go_simp; all_goals (with_reducible rfl))
    (try simp only [Act.put]); try simp only [z2, List.set]
    refine wpAnyH_ready (rs := [10]) (by kernel_rfl) (by simp) ?_
    refine AllReadyH.cons opAt10 (fun K hK => ?_) AllReadyH.nil
    go_simp
    go_at_call 51; refine (LE.out _).mono ?_; rintro e w7 ⟨rfl, k7⟩; dsimp only
    refine hK.out _ _ ?_ (fun hHeld => ?_)
    ·exact ⟨⟨k7.cell hHeld.1.1 (fun f => f), k7.cell hHeld.1.2.1 (fun f => f), k7.cell hHeld.1.2.2.1 (fun f => f), k7.cell hHeld.1.2.2.2.1 (fun f => f), k7.cell hHeld.1.2.2.2.2.1 (fun f => f), k7.cell hHeld.1.2.2.2.2.2.1 (fun f => f), k7.cell hHeld.1.2.2.2.2.2.2.1 (fun f => f), k7.cell hHeld.1.2.2.2.2.2.2.2 (fun f => f)⟩, hHeld.2.keptF k7⟩
    clear hK K
    (try simp only [Act.put]); try simp only [z2, List.set]
    refine tW 11 opAt11 hHeld ?_
    (try simp only [Act.put]); try simp only [z2, List.set]
    refine wpAnyH_done (by kernel_rfl) ?_ _
    have KN := Lib.hid (keptFF KR.out.drew k7)
    clear k7 hHeld
    go_wp2
    go_roundg (n + 1 - k - 1)
    case measure => have := JK.out; omega
    case rel =>
     refine ⟨k + 1, by have := JK.out; omega, by omega, by go_num, KN.out, fun j y hj hy => ?_⟩
     rcases Nat.lt_or_ge j k with h | h
     ·exact LS.out j y h hy
     ·obtain rfl : j = k := by omega
      have := HX.out
      rw [hy] at this
      cases this
      exact HLT.out
   ·have LE := Lib.hid (rless_all x s)
    rw [decide_eq_false hlt] at LE
    unfold aggS at LE
    have PO := Lib.hid (pos_eq s L k (by rw [HLN.out]; omega) LS.out (fun y hy => by have := HX.out; rw [hy] at this; cases this; exact hlt))
    clear hlt
    go_wp2
    refine wp_region_held_drew (S := (fun w' => (w'.cell? ⟨g, k * 8, none⟩ = some (.int .i64 x.tr) ∧ w'.cell? ⟨g, k * 8 + 1, none⟩ = some (.int .i64 x.id) ∧ w'.cell? ⟨g, k * 8 + 2, none⟩ = some (.int .i64 x.pa) ∧ w'.cell? ⟨g, k * 8 + 3, none⟩ = some (.string x.se) ∧ w'.cell? ⟨g, k * 8 + 4, none⟩ = some (.string x.ho) ∧ w'.cell? ⟨g, k * 8 + 5, none⟩ = some (.int .i64 x.st) ∧ w'.cell? ⟨g, k * 8 + 6, none⟩ = some (.int .i64 x.du) ∧ w'.cell? ⟨g, k * 8 + 7, none⟩ = some (.string x.no)) ∧ SpanAt w' sb s)) (by kernel_rfl) ?_ (fun hHeld => ?_)
    ·exact ⟨rx, SBX.out.keptF KR.out.drew⟩
    refine tW 0 opAt0 hHeld ?_
    (try simp only [Act.put]); try simp only [z2, List.set]
    refine tW 1 opAt1 hHeld ?_
    (try simp only [Act.put]); try simp only [z2, List.set]
    refine tW 2 opAt2 hHeld ?_
    (try simp only [Act.put]); try simp only [z2, List.set]
    refine tW 3 opAt3 hHeld ?_
    (try simp only [Act.put]); try simp only [z2, List.set]
    refine tW 4 opAt4 hHeld ?_
    (try simp only [Act.put]); try simp only [z2, List.set]
    refine tW 5 opAt5 hHeld ?_
    (try simp only [Act.put]); try simp only [z2, List.set]
    refine tW 6 opAt6 hHeld ?_
    (try simp only [Act.put]); try simp only [z2, List.set]
    refine tW 7 opAt7 hHeld ?_
    (try simp only [Act.put]); try simp only [z2, List.set]
    refine tH (v := ?_) 8 opAt8 ?_ hHeld ?_
    case refine_2 => (intro w hSw; (try dsimp only at hSw); obtain ⟨x0, x1, x2, x3, x4, x5, x6, x7⟩ := hSw.1; clear hSw; go_simp; all_goals (with_reducible rfl))
    (try simp only [Act.put]); try simp only [z2, List.set]
    refine tH (v := ?_) 9 opAt9 ?_ hHeld ?_
    case refine_2 => (intro w hSw; (try dsimp only at hSw); have s0 := hSw.2 0 _ rfl; have s1 := hSw.2 1 _ rfl; have s2 := hSw.2 2 _ rfl; have s3 := hSw.2 3 _ rfl; have s4 := hSw.2 4 _ rfl; have s5 := hSw.2 5 _ rfl; have s6 := hSw.2 6 _ rfl; have s7 := hSw.2 7 _ rfl; clear hSw; go_simp; all_goals (with_reducible rfl))
    (try simp only [Act.put]); try simp only [z2, List.set]
    refine wpAnyH_ready (rs := [10]) (by kernel_rfl) (by simp) ?_
    refine AllReadyH.cons opAt10 (fun K hK => ?_) AllReadyH.nil
    go_simp
    go_at_call 51; refine (LE.out _).mono ?_; rintro e w7 ⟨rfl, k7⟩; dsimp only
    refine hK.out _ _ ?_ (fun hHeld => ?_)
    ·exact ⟨⟨k7.cell hHeld.1.1 (fun f => f), k7.cell hHeld.1.2.1 (fun f => f), k7.cell hHeld.1.2.2.1 (fun f => f), k7.cell hHeld.1.2.2.2.1 (fun f => f), k7.cell hHeld.1.2.2.2.2.1 (fun f => f), k7.cell hHeld.1.2.2.2.2.2.1 (fun f => f), k7.cell hHeld.1.2.2.2.2.2.2.1 (fun f => f), k7.cell hHeld.1.2.2.2.2.2.2.2 (fun f => f)⟩, hHeld.2.keptF k7⟩
    clear hK K
    (try simp only [Act.put]); try simp only [z2, List.set]
    refine tW 11 opAt11 hHeld ?_
    (try simp only [Act.put]); try simp only [z2, List.set]
    refine wpAnyH_done (by kernel_rfl) ?_ _
    have KN := Lib.hid (keptFF KR.out.drew k7)
    clear k7 hHeld
    have B0 := Lib.hid KN.out
    obtain ⟨X1, X2, hX1, hX2, SR1, SR2⟩ := slices_of OL.out HLN.out k (by omega)
    have HX2 := Lib.hid hX2
    have SRC1 := Lib.hid (SR1.kept B0.out)
    clear hX2 SR1 SR2
    go_wp2_with (at_builtin; refine stopH ?_)
    intro _
    refine wpList_appG rfl _ _ 27 rfl (wb0 + 1) 37 i0 _ 8 88 Try.underlying27 hi0 hz0 hz1 hz2 rfl (by decide) _ 0 [] rfl (World.ownsRow_nil _ _ _ _) k (cellsS (L.take k)) X1 rfl SRC1.out (by rw [cellsS_length, List.length_take, Nat.min_eq_left (by rw [HLN.out]; omega)]) (cellsS_one _) (by unfold maxLen; omega) (by omega) (WB.out _ B0.out) ?_
    intro ao1 cap1 w1 own1 k1 hat1
    have K1 := Lib.hid (keptFF B0.out (k1.mono (fun q _ h => by cases h)))
    rw [Nat.zero_add, List.nil_append] at own1
    have O1 := Lib.hid own1
    clear own1 k1 hat1 hX1
    have b8 := SBX.out.keptF K1.out
    have b0 := b8 0 _ rfl
    have b1 := b8 1 _ rfl
    have b2 := b8 2 _ rfl
    have b3 := b8 3 _ rfl
    have b4 := b8 4 _ rfl
    have b5 := b8 5 _ rfl
    have b6 := b8 6 _ rfl
    have b7 := b8 7 _ rfl
    clear b8
    go_wp2_with (at_builtin; refine wpList_append_own _ rfl _ _ 27 rfl (wb0 + 1) 37 i0 _ 8 88 Try.underlying27 hi0 hz0 hz1 hz2 rfl (by decide) _ _ _ rfl (own_kept O1.out ((Kept.refl (fun _ => False) w1).alloc _) (fun _ _ f => f)) ⟨w1.heap.size, 0, none⟩ 1 1 s.cells rfl rfl (World.news_of_block (heap_alloc_new w1 _)) ?qa ?qb ?qc ?qd ?_)
    case qa => intro u hu; simp [Spn.cells] at hu; rcases hu with rfl | rfl | rfl | rfl | rfl | rfl | rfl | rfl <;> rfl
    case qb => unfold maxLen; omega
    case qc => omega
    case qd => have := WB.out _ K1.out; simp; omega
    intro v2 w2 own2 hg2 hn2
    have KZ := Lib.hid ((((K1.out.alloc (Obj.cells #[.int .i64 s.tr, .int .i64 s.id, .int .i64 s.pa, .string s.se, .string s.ho, .int .i64 s.st, .int .i64 s.du, .string s.no] 37)) : Kept (fun _ => False) wB _).grown hg2 (fun q hq hlt => by have h1 := own_from O1.out hq; have h2 := WBE.out; omega)))
    have O2 := Lib.hid own2
    obtain ⟨ao2, cap2, rfl⟩ := own_slice own2
    clear own2 hg2 hn2 b0 b1 b2 b3 b4 b5 b6 b7
    have rz : (w2.cell? ⟨g, k * 8, none⟩ = some (.int .i64 x.tr) ∧ w2.cell? ⟨g, k * 8 + 1, none⟩ = some (.int .i64 x.id) ∧ w2.cell? ⟨g, k * 8 + 2, none⟩ = some (.int .i64 x.pa) ∧ w2.cell? ⟨g, k * 8 + 3, none⟩ = some (.string x.se) ∧ w2.cell? ⟨g, k * 8 + 4, none⟩ = some (.string x.ho) ∧ w2.cell? ⟨g, k * 8 + 5, none⟩ = some (.int .i64 x.st) ∧ w2.cell? ⟨g, k * 8 + 6, none⟩ = some (.int .i64 x.du) ∧ w2.cell? ⟨g, k * 8 + 7, none⟩ = some (.string x.no)) := by
     obtain ⟨x0, x1, x2, x3, x4, x5, x6, x7⟩ := RB.out
     exact ⟨KZ.out.cell x0 (fun f => f), KZ.out.cell x1 (fun f => f), KZ.out.cell x2 (fun f => f), KZ.out.cell x3 (fun f => f), KZ.out.cell x4 (fun f => f), KZ.out.cell x5 (fun f => f), KZ.out.cell x6 (fun f => f), KZ.out.cell x7 (fun f => f)⟩
    by_cases c1 : x.tr = s.tr
    ·by_cases c2 : x.id = s.id
     ·have SA := Lib.hid (show sameAt s L k from ⟨x, HX.out, by unfold keyOf; rw [c1, c2]⟩)
      have d1 : (x.tr == s.tr) = true := by simp [c1]
      have d2 : (x.id == s.id) = true := by simp [c2]
      go_wp2
      refine wp_region_held_drew (S := (fun w' => (w'.cell? ⟨g, k * 8, none⟩ = some (.int .i64 x.tr) ∧ w'.cell? ⟨g, k * 8 + 1, none⟩ = some (.int .i64 x.id) ∧ w'.cell? ⟨g, k * 8 + 2, none⟩ = some (.int .i64 x.pa) ∧ w'.cell? ⟨g, k * 8 + 3, none⟩ = some (.string x.se) ∧ w'.cell? ⟨g, k * 8 + 4, none⟩ = some (.string x.ho) ∧ w'.cell? ⟨g, k * 8 + 5, none⟩ = some (.int .i64 x.st) ∧ w'.cell? ⟨g, k * 8 + 6, none⟩ = some (.int .i64 x.du) ∧ w'.cell? ⟨g, k * 8 + 7, none⟩ = some (.string x.no)) ∧ SpanAt w' sb s)) (by kernel_rfl) ?_ (fun hHeld => ?_)
      ·exact ⟨rz, SBX.out.keptF KZ.out.drew⟩
      refine tW 0 opAt0 hHeld ?_
      (try simp only [Act.put]); try simp only [z2, List.set]
      refine tW 1 opAt1 hHeld ?_
      (try simp only [Act.put]); try simp only [z2, List.set]
      refine tW 2 opAt2 hHeld ?_
      (try simp only [Act.put]); try simp only [z2, List.set]
      refine tW 3 opAt3 hHeld ?_
      (try simp only [Act.put]); try simp only [z2, List.set]
      refine tW 4 opAt4 hHeld ?_
      (try simp only [Act.put]); try simp only [z2, List.set]
      refine tW 5 opAt5 hHeld ?_
      (try simp only [Act.put]); try simp only [z2, List.set]
      refine tW 6 opAt6 hHeld ?_
      (try simp only [Act.put]); try simp only [z2, List.set]
      refine tW 7 opAt7 hHeld ?_
      (try simp only [Act.put]); try simp only [z2, List.set]
      refine tW 8 opAt8 hHeld ?_
      (try simp only [Act.put]); try simp only [z2, List.set]
      refine tH (v := ?_) 9 opAt9 ?_ hHeld ?_
      case refine_2 => (intro w hSw; (try dsimp only at hSw); have x0 := hSw.1.1; clear hSw; go_simp; all_goals (with_reducible rfl))
      (try simp only [Act.put]); try simp only [z2, List.set]
      refine tW 10 opAt10 hHeld ?_
      (try simp only [Act.put]); try simp only [z2, List.set]
      refine tH (v := ?_) 11 opAt11 ?_ hHeld ?_
      case refine_2 => (intro w hSw; (try dsimp only at hSw); have s0 := hSw.2 0 _ rfl; clear hSw; go_simp; all_goals (with_reducible rfl))
      (try simp only [Act.put]); try simp only [z2, List.set]
      refine tW 12 opAt12 hHeld ?_
      (try simp only [Act.put]); try simp only [z2, List.set]
      refine tW 13 opAt13 hHeld ?_
      (try simp only [Act.put]); try simp only [z2, List.set]
      refine tW 14 opAt14 hHeld ?_
      (try simp only [Act.put]); try simp only [z2, List.set]
      refine tW 15 opAt15 hHeld ?_
      (try simp only [Act.put]); try simp only [z2, List.set]
      refine tW 16 opAt16 hHeld ?_
      (try simp only [Act.put]); try simp only [z2, List.set]
      refine tW 17 opAt17 hHeld ?_
      (try simp only [Act.put]); try simp only [z2, List.set]
      refine tW 18 opAt18 hHeld ?_
      (try simp only [Act.put]); try simp only [z2, List.set]
      refine tH (v := ?_) 19 opAt19 ?_ hHeld ?_
      case refine_2 => (intro w hSw; (try dsimp only at hSw); have x1 := hSw.1.2.1; clear hSw; go_simp; all_goals (with_reducible rfl))
      (try simp only [Act.put]); try simp only [z2, List.set]
      refine tW 20 opAt20 hHeld ?_
      (try simp only [Act.put]); try simp only [z2, List.set]
      refine tH (v := ?_) 21 opAt21 ?_ hHeld ?_
      case refine_2 => (intro w hSw; (try dsimp only at hSw); have s1 := hSw.2 1 _ rfl; clear hSw; go_simp; all_goals (with_reducible rfl))
      (try simp only [Act.put]); try simp only [z2, List.set]
      refine tW 22 opAt22 hHeld ?_
      (try simp only [Act.put]); try simp only [z2, List.set]
      refine tW 23 opAt23 hHeld ?_
      (try simp only [Act.put]); try simp only [z2, List.set]
      refine wpAnyH_done (by kernel_rfl) ?_ _
      clear hHeld d1 d2
      obtain ⟨X3, X4, hX3, hX4, SR3, SR4⟩ := slices_of OL.out HLN.out (k + 1) (by omega)

      have SRC4 := Lib.hid (SR4.kept (KZ.out.drew))
      clear hX3 SR3
      rw [show (((k + 1 : Nat) : Int)) = (k : Int) + 1 by omega] at hX4
      go_wp2_with (at_builtin; refine stopH ?_)
      intro _
      refine wpList_appG rfl _ _ 27 rfl (wb0 + 1) 37 i0 _ 8 88 Try.underlying27 hi0 hz0 hz1 hz2 rfl (by decide) _ (k + 1) _ rfl (own_kept O2.out ((Kept.refl (fun _ => False) w2).drew) (fun _ _ f => f)) (n - (k + 1)) (cellsS (L.drop (k + 1))) X4 rfl SRC4.out (by rw [cellsS_length, List.length_drop, HLN.out]) (cellsS_one _) (by unfold maxLen; omega) (by omega) (WB.out _ KZ.out.drew) ?_
      intro ao4 cap4 w4 own4 k4 hat4
      have O4 := Lib.hid own4
      have K4 := Lib.hid (KZ.out.drew.trans k4 (fun _ _ f => f) (fun q hq h => by have h1 := own_from O2.out h; have h2 := WBE.out; omega) : Kept (fun _ => False) wB w4)
      clear own4 k4 hat4 hX4
      go_wp2
      go_ret
      have e : putR s L = L.take k ++ [s] ++ L.drop (k + 1) := by exact put_same PO.out SA.out
      have el : (putR s L).length = k + 1 + (n - (k + 1)) := by rw [e, List.length_append, List.length_append, List.length_take, List.length_drop, HLN.out, Nat.min_eq_left (by omega)]; rfl
      exact ⟨_, rfl, by rw [el, e, cellsS_append, cellsS_append, show cellsS [s] = s.cells by simp [cellsS]]; exact own_lo O4.out (Nat.le_succ wb0), keptFF KB.out K4.out⟩
     ·have SA := Lib.hid (show ¬ sameAt s L k from fun ⟨y, hy, e⟩ => by
       have := HX.out
       rw [hy] at this
       cases this
       unfold keyOf at e
       exact c2 (Prod.mk.inj e).2)
      have d1 : (x.tr == s.tr) = true := by simp [c1]
      have d2 : (x.id == s.id) = false := by simp [c2]
      go_wp2
      refine wp_region_held_drew (S := (fun w' => (w'.cell? ⟨g, k * 8, none⟩ = some (.int .i64 x.tr) ∧ w'.cell? ⟨g, k * 8 + 1, none⟩ = some (.int .i64 x.id) ∧ w'.cell? ⟨g, k * 8 + 2, none⟩ = some (.int .i64 x.pa) ∧ w'.cell? ⟨g, k * 8 + 3, none⟩ = some (.string x.se) ∧ w'.cell? ⟨g, k * 8 + 4, none⟩ = some (.string x.ho) ∧ w'.cell? ⟨g, k * 8 + 5, none⟩ = some (.int .i64 x.st) ∧ w'.cell? ⟨g, k * 8 + 6, none⟩ = some (.int .i64 x.du) ∧ w'.cell? ⟨g, k * 8 + 7, none⟩ = some (.string x.no)) ∧ SpanAt w' sb s)) (by kernel_rfl) ?_ (fun hHeld => ?_)
      ·exact ⟨rz, SBX.out.keptF KZ.out.drew⟩
      refine tW 0 opAt0 hHeld ?_
      (try simp only [Act.put]); try simp only [z2, List.set]
      refine tW 1 opAt1 hHeld ?_
      (try simp only [Act.put]); try simp only [z2, List.set]
      refine tW 2 opAt2 hHeld ?_
      (try simp only [Act.put]); try simp only [z2, List.set]
      refine tW 3 opAt3 hHeld ?_
      (try simp only [Act.put]); try simp only [z2, List.set]
      refine tW 4 opAt4 hHeld ?_
      (try simp only [Act.put]); try simp only [z2, List.set]
      refine tW 5 opAt5 hHeld ?_
      (try simp only [Act.put]); try simp only [z2, List.set]
      refine tW 6 opAt6 hHeld ?_
      (try simp only [Act.put]); try simp only [z2, List.set]
      refine tW 7 opAt7 hHeld ?_
      (try simp only [Act.put]); try simp only [z2, List.set]
      refine tW 8 opAt8 hHeld ?_
      (try simp only [Act.put]); try simp only [z2, List.set]
      refine tH (v := ?_) 9 opAt9 ?_ hHeld ?_
      case refine_2 => (intro w hSw; (try dsimp only at hSw); have x0 := hSw.1.1; clear hSw; go_simp; all_goals (with_reducible rfl))
      (try simp only [Act.put]); try simp only [z2, List.set]
      refine tW 10 opAt10 hHeld ?_
      (try simp only [Act.put]); try simp only [z2, List.set]
      refine tH (v := ?_) 11 opAt11 ?_ hHeld ?_
      case refine_2 => (intro w hSw; (try dsimp only at hSw); have s0 := hSw.2 0 _ rfl; clear hSw; go_simp; all_goals (with_reducible rfl))
      (try simp only [Act.put]); try simp only [z2, List.set]
      refine tW 12 opAt12 hHeld ?_
      (try simp only [Act.put]); try simp only [z2, List.set]
      refine tW 13 opAt13 hHeld ?_
      (try simp only [Act.put]); try simp only [z2, List.set]
      refine tW 14 opAt14 hHeld ?_
      (try simp only [Act.put]); try simp only [z2, List.set]
      refine tW 15 opAt15 hHeld ?_
      (try simp only [Act.put]); try simp only [z2, List.set]
      refine tW 16 opAt16 hHeld ?_
      (try simp only [Act.put]); try simp only [z2, List.set]
      refine tW 17 opAt17 hHeld ?_
      (try simp only [Act.put]); try simp only [z2, List.set]
      refine tW 18 opAt18 hHeld ?_
      (try simp only [Act.put]); try simp only [z2, List.set]
      refine tH (v := ?_) 19 opAt19 ?_ hHeld ?_
      case refine_2 => (intro w hSw; (try dsimp only at hSw); have x1 := hSw.1.2.1; clear hSw; go_simp; all_goals (with_reducible rfl))
      (try simp only [Act.put]); try simp only [z2, List.set]
      refine tW 20 opAt20 hHeld ?_
      (try simp only [Act.put]); try simp only [z2, List.set]
      refine tH (v := ?_) 21 opAt21 ?_ hHeld ?_
      case refine_2 => (intro w hSw; (try dsimp only at hSw); have s1 := hSw.2 1 _ rfl; clear hSw; go_simp; all_goals (with_reducible rfl))
      (try simp only [Act.put]); try simp only [z2, List.set]
      refine tW 22 opAt22 hHeld ?_
      (try simp only [Act.put]); try simp only [z2, List.set]
      refine tW 23 opAt23 hHeld ?_
      (try simp only [Act.put]); try simp only [z2, List.set]
      refine wpAnyH_done (by kernel_rfl) ?_ _
      clear hHeld d1 d2
      obtain ⟨X3, X4, hX3, hX4, SR3, SR4⟩ := slices_of OL.out HLN.out (k) (by omega)

      have SRC4 := Lib.hid (SR4.kept (KZ.out.drew))
      clear hX3 SR3
      have HX4 := Lib.hid (show True from trivial)
      go_wp2_with (at_builtin; refine stopH ?_)
      intro _
      refine wpList_appG rfl _ _ 27 rfl (wb0 + 1) 37 i0 _ 8 88 Try.underlying27 hi0 hz0 hz1 hz2 rfl (by decide) _ (k + 1) _ rfl (own_kept O2.out ((Kept.refl (fun _ => False) w2).drew) (fun _ _ f => f)) (n - (k)) (cellsS (L.drop (k))) X4 rfl SRC4.out (by rw [cellsS_length, List.length_drop, HLN.out]) (cellsS_one _) (by unfold maxLen; omega) (by omega) (WB.out _ KZ.out.drew) ?_
      intro ao4 cap4 w4 own4 k4 hat4
      have O4 := Lib.hid own4
      have K4 := Lib.hid (KZ.out.drew.trans k4 (fun _ _ f => f) (fun q hq h => by have h1 := own_from O2.out h; have h2 := WBE.out; omega) : Kept (fun _ => False) wB w4)
      clear own4 k4 hat4 hX4
      go_wp2
      go_ret
      have e : putR s L = L.take k ++ [s] ++ L.drop (k) := by exact put_at PO.out SA.out
      have el : (putR s L).length = k + 1 + (n - (k)) := by rw [e, List.length_append, List.length_append, List.length_take, List.length_drop, HLN.out, Nat.min_eq_left (by omega)]; rfl
      exact ⟨_, rfl, by rw [el, e, cellsS_append, cellsS_append, show cellsS [s] = s.cells by simp [cellsS]]; exact own_lo O4.out (Nat.le_succ wb0), keptFF KB.out K4.out⟩
    ·have SA := Lib.hid (show ¬ sameAt s L k from fun ⟨y, hy, e⟩ => by
      have := HX.out
      rw [hy] at this
      cases this
      unfold keyOf at e
      exact c1 (Prod.mk.inj e).1)
     have d1 : (x.tr == s.tr) = false := by simp [c1]
     go_wp2
     refine wp_region_held_drew (S := (fun w' => (w'.cell? ⟨g, k * 8, none⟩ = some (.int .i64 x.tr) ∧ w'.cell? ⟨g, k * 8 + 1, none⟩ = some (.int .i64 x.id) ∧ w'.cell? ⟨g, k * 8 + 2, none⟩ = some (.int .i64 x.pa) ∧ w'.cell? ⟨g, k * 8 + 3, none⟩ = some (.string x.se) ∧ w'.cell? ⟨g, k * 8 + 4, none⟩ = some (.string x.ho) ∧ w'.cell? ⟨g, k * 8 + 5, none⟩ = some (.int .i64 x.st) ∧ w'.cell? ⟨g, k * 8 + 6, none⟩ = some (.int .i64 x.du) ∧ w'.cell? ⟨g, k * 8 + 7, none⟩ = some (.string x.no)) ∧ SpanAt w' sb s)) (by kernel_rfl) ?_ (fun hHeld => ?_)
     ·exact ⟨rz, SBX.out.keptF KZ.out.drew⟩
     refine tW 0 opAt0 hHeld ?_
     (try simp only [Act.put]); try simp only [z2, List.set]
     refine tW 1 opAt1 hHeld ?_
     (try simp only [Act.put]); try simp only [z2, List.set]
     refine tW 2 opAt2 hHeld ?_
     (try simp only [Act.put]); try simp only [z2, List.set]
     refine tW 3 opAt3 hHeld ?_
     (try simp only [Act.put]); try simp only [z2, List.set]
     refine tW 4 opAt4 hHeld ?_
     (try simp only [Act.put]); try simp only [z2, List.set]
     refine tW 5 opAt5 hHeld ?_
     (try simp only [Act.put]); try simp only [z2, List.set]
     refine tW 6 opAt6 hHeld ?_
     (try simp only [Act.put]); try simp only [z2, List.set]
     refine tW 7 opAt7 hHeld ?_
     (try simp only [Act.put]); try simp only [z2, List.set]
     refine tW 8 opAt8 hHeld ?_
     (try simp only [Act.put]); try simp only [z2, List.set]
     refine tH (v := ?_) 9 opAt9 ?_ hHeld ?_
     case refine_2 => (intro w hSw; (try dsimp only at hSw); have x0 := hSw.1.1; clear hSw; go_simp; all_goals (with_reducible rfl))
     (try simp only [Act.put]); try simp only [z2, List.set]
     refine tW 10 opAt10 hHeld ?_
     (try simp only [Act.put]); try simp only [z2, List.set]
     refine tH (v := ?_) 11 opAt11 ?_ hHeld ?_
     case refine_2 => (intro w hSw; (try dsimp only at hSw); have s0 := hSw.2 0 _ rfl; clear hSw; go_simp; all_goals (with_reducible rfl))
     (try simp only [Act.put]); try simp only [z2, List.set]
     refine tW 12 opAt12 hHeld ?_
     (try simp only [Act.put]); try simp only [z2, List.set]
     refine tW 13 opAt13 hHeld ?_
     (try simp only [Act.put]); try simp only [z2, List.set]
     refine tW 14 opAt14 hHeld ?_
     (try simp only [Act.put]); try simp only [z2, List.set]
     refine tU 15 opAt15 hHeld ?_
     (try simp only [Act.put]); try simp only [z2, List.set]
     refine tU 16 opAt16 hHeld ?_
     (try simp only [Act.put]); try simp only [z2, List.set]
     refine tU 17 opAt17 hHeld ?_
     (try simp only [Act.put]); try simp only [z2, List.set]
     refine tU 18 opAt18 hHeld ?_
     (try simp only [Act.put]); try simp only [z2, List.set]
     refine tU 19 opAt19 hHeld ?_
     (try simp only [Act.put]); try simp only [z2, List.set]
     refine tU 20 opAt20 hHeld ?_
     (try simp only [Act.put]); try simp only [z2, List.set]
     refine tU 21 opAt21 hHeld ?_
     (try simp only [Act.put]); try simp only [z2, List.set]
     refine tU 22 opAt22 hHeld ?_
     (try simp only [Act.put]); try simp only [z2, List.set]
     refine tW 23 opAt23 hHeld ?_
     (try simp only [Act.put]); try simp only [z2, List.set]
     refine wpAnyH_done (by kernel_rfl) ?_ _
     clear hHeld d1
     obtain ⟨X3, X4, hX3, hX4, SR3, SR4⟩ := slices_of OL.out HLN.out (k) (by omega)

     have SRC4 := Lib.hid (SR4.kept (KZ.out.drew))
     clear hX3 SR3
     have HX4 := Lib.hid (show True from trivial)
     go_wp2_with (at_builtin; refine stopH ?_)
     intro _
     refine wpList_appG rfl _ _ 27 rfl (wb0 + 1) 37 i0 _ 8 88 Try.underlying27 hi0 hz0 hz1 hz2 rfl (by decide) _ (k + 1) _ rfl (own_kept O2.out ((Kept.refl (fun _ => False) w2).drew) (fun _ _ f => f)) (n - (k)) (cellsS (L.drop (k))) X4 rfl SRC4.out (by rw [cellsS_length, List.length_drop, HLN.out]) (cellsS_one _) (by unfold maxLen; omega) (by omega) (WB.out _ KZ.out.drew) ?_
     intro ao4 cap4 w4 own4 k4 hat4
     have O4 := Lib.hid own4
     have K4 := Lib.hid (KZ.out.drew.trans k4 (fun _ _ f => f) (fun q hq h => by have h1 := own_from O2.out h; have h2 := WBE.out; omega) : Kept (fun _ => False) wB w4)
     clear own4 k4 hat4 hX4
     go_wp2
     go_ret
     have e : putR s L = L.take k ++ [s] ++ L.drop (k) := by exact put_at PO.out SA.out
     have el : (putR s L).length = k + 1 + (n - (k)) := by rw [e, List.length_append, List.length_append, List.length_take, List.length_drop, HLN.out, Nat.min_eq_left (by omega)]; rfl
     exact ⟨_, rfl, by rw [el, e, cellsS_append, cellsS_append, show cellsS [s] = s.cells by simp [cellsS]]; exact own_lo O4.out (Nat.le_succ wb0), keptFF KB.out K4.out⟩
  ·have k1 : ¬ (k : Int) < (n : Int) := by omega
   have hkn2 : k = n := by omega
   have HKN := Lib.hid hkn2
   have E0 := Lib.hid (show n - k = 0 by omega)
   clear hkn2
   have PO := Lib.hid (pos_eq s L k (by rw [HLN.out]; omega) LS.out (fun y hy => by have := (List.getElem?_eq_some_iff.1 hy).1; rw [HLN.out] at this; omega))
   have SA := Lib.hid (show ¬ sameAt s L k from fun ⟨y, hy, e⟩ => by have := (List.getElem?_eq_some_iff.1 hy).1; rw [HLN.out] at this; omega)
   go_wp2
   refine wp_region_held_drew (S := (fun w' => SpanAt w' sb s)) (by kernel_rfl) ?_ (fun hHeld => ?_)
   ·exact SBX.out.keptF KR.out.drew
   refine tW 0 opAt0 hHeld ?_
   (try simp only [Act.put]); try simp only [z2, List.set]
   refine tW 1 opAt1 hHeld ?_
   (try simp only [Act.put]); try simp only [z2, List.set]
   refine tW 2 opAt2 hHeld ?_
   (try simp only [Act.put]); try simp only [z2, List.set]
   refine tW 3 opAt3 hHeld ?_
   (try simp only [Act.put]); try simp only [z2, List.set]
   refine tW 4 opAt4 hHeld ?_
   (try simp only [Act.put]); try simp only [z2, List.set]
   refine tU 5 opAt5 hHeld ?_
   (try simp only [Act.put]); try simp only [z2, List.set]
   refine tU 6 opAt6 hHeld ?_
   (try simp only [Act.put]); try simp only [z2, List.set]
   refine tU 7 opAt7 hHeld ?_
   (try simp only [Act.put]); try simp only [z2, List.set]
   refine tU 8 opAt8 hHeld ?_
   (try simp only [Act.put]); try simp only [z2, List.set]
   refine tU 9 opAt9 hHeld ?_
   (try simp only [Act.put]); try simp only [z2, List.set]
   refine tU 10 opAt10 hHeld ?_
   (try simp only [Act.put]); try simp only [z2, List.set]
   refine tW 11 opAt11 hHeld ?_
   (try simp only [Act.put]); try simp only [z2, List.set]
   refine wpAnyH_done (by kernel_rfl) ?_ _
   have KN := Lib.hid KR.out.drew
   clear hHeld
   have B0 := Lib.hid KN.out
   obtain ⟨X1, X2, hX1, hX2, SR1, SR2⟩ := slices_of OL.out HLN.out k (by omega)
   have HX2 := Lib.hid hX2
   have SRC1 := Lib.hid (SR1.kept B0.out)
   clear hX2 SR1 SR2
   go_wp2_with (at_builtin; refine stopH ?_)
   intro _
   refine wpList_appG rfl _ _ 27 rfl (wb0 + 1) 37 i0 _ 8 88 Try.underlying27 hi0 hz0 hz1 hz2 rfl (by decide) _ 0 [] rfl (World.ownsRow_nil _ _ _ _) k (cellsS (L.take k)) X1 rfl SRC1.out (by rw [cellsS_length, List.length_take, Nat.min_eq_left (by rw [HLN.out]; omega)]) (cellsS_one _) (by unfold maxLen; omega) (by omega) (WB.out _ B0.out) ?_
   intro ao1 cap1 w1 own1 k1 hat1
   have K1 := Lib.hid (keptFF B0.out (k1.mono (fun q _ h => by cases h)))
   rw [Nat.zero_add, List.nil_append] at own1
   have O1 := Lib.hid own1
   clear own1 k1 hat1 hX1
   have b8 := SBX.out.keptF K1.out
   have b0 := b8 0 _ rfl
   have b1 := b8 1 _ rfl
   have b2 := b8 2 _ rfl
   have b3 := b8 3 _ rfl
   have b4 := b8 4 _ rfl
   have b5 := b8 5 _ rfl
   have b6 := b8 6 _ rfl
   have b7 := b8 7 _ rfl
   clear b8
   go_wp2_with (at_builtin; refine wpList_append_own _ rfl _ _ 27 rfl (wb0 + 1) 37 i0 _ 8 88 Try.underlying27 hi0 hz0 hz1 hz2 rfl (by decide) _ _ _ rfl (own_kept O1.out ((Kept.refl (fun _ => False) w1).alloc _) (fun _ _ f => f)) ⟨w1.heap.size, 0, none⟩ 1 1 s.cells rfl rfl (World.news_of_block (heap_alloc_new w1 _)) ?qa ?qb ?qc ?qd ?_)
   case qa => intro u hu; simp [Spn.cells] at hu; rcases hu with rfl | rfl | rfl | rfl | rfl | rfl | rfl | rfl <;> rfl
   case qb => unfold maxLen; omega
   case qc => omega
   case qd => have := WB.out _ K1.out; simp; omega
   intro v2 w2 own2 hg2 hn2
   have KZ := Lib.hid ((((K1.out.alloc (Obj.cells #[.int .i64 s.tr, .int .i64 s.id, .int .i64 s.pa, .string s.se, .string s.ho, .int .i64 s.st, .int .i64 s.du, .string s.no] 37)) : Kept (fun _ => False) wB _).grown hg2 (fun q hq hlt => by have h1 := own_from O1.out hq; have h2 := WBE.out; omega)))
   have O2 := Lib.hid own2
   obtain ⟨ao2, cap2, rfl⟩ := own_slice own2
   clear own2 hg2 hn2 b0 b1 b2 b3 b4 b5 b6 b7
   go_wp2
   refine wp_region_held_drew (S := (fun w' => SpanAt w' sb s)) (by kernel_rfl) ?_ (fun hHeld => ?_)
   ·exact SBX.out.keptF KZ.out.drew
   refine tW 0 opAt0 hHeld ?_
   (try simp only [Act.put]); try simp only [z2, List.set]
   refine tW 1 opAt1 hHeld ?_
   (try simp only [Act.put]); try simp only [z2, List.set]
   refine tW 2 opAt2 hHeld ?_
   (try simp only [Act.put]); try simp only [z2, List.set]
   refine tW 3 opAt3 hHeld ?_
   (try simp only [Act.put]); try simp only [z2, List.set]
   refine tW 4 opAt4 hHeld ?_
   (try simp only [Act.put]); try simp only [z2, List.set]
   refine tU 5 opAt5 hHeld ?_
   (try simp only [Act.put]); try simp only [z2, List.set]
   refine tU 6 opAt6 hHeld ?_
   (try simp only [Act.put]); try simp only [z2, List.set]
   refine tU 7 opAt7 hHeld ?_
   (try simp only [Act.put]); try simp only [z2, List.set]
   refine tU 8 opAt8 hHeld ?_
   (try simp only [Act.put]); try simp only [z2, List.set]
   refine tU 9 opAt9 hHeld ?_
   (try simp only [Act.put]); try simp only [z2, List.set]
   refine tU 10 opAt10 hHeld ?_
   (try simp only [Act.put]); try simp only [z2, List.set]
   refine tU 11 opAt11 hHeld ?_
   (try simp only [Act.put]); try simp only [z2, List.set]
   refine tU 12 opAt12 hHeld ?_
   (try simp only [Act.put]); try simp only [z2, List.set]
   refine tW 13 opAt13 hHeld ?_
   (try simp only [Act.put]); try simp only [z2, List.set]
   refine tW 14 opAt14 hHeld ?_
   (try simp only [Act.put]); try simp only [z2, List.set]
   refine tU 15 opAt15 hHeld ?_
   (try simp only [Act.put]); try simp only [z2, List.set]
   refine tU 16 opAt16 hHeld ?_
   (try simp only [Act.put]); try simp only [z2, List.set]
   refine tU 17 opAt17 hHeld ?_
   (try simp only [Act.put]); try simp only [z2, List.set]
   refine tU 18 opAt18 hHeld ?_
   (try simp only [Act.put]); try simp only [z2, List.set]
   refine tU 19 opAt19 hHeld ?_
   (try simp only [Act.put]); try simp only [z2, List.set]
   refine tU 20 opAt20 hHeld ?_
   (try simp only [Act.put]); try simp only [z2, List.set]
   refine tU 21 opAt21 hHeld ?_
   (try simp only [Act.put]); try simp only [z2, List.set]
   refine tU 22 opAt22 hHeld ?_
   (try simp only [Act.put]); try simp only [z2, List.set]
   refine tW 23 opAt23 hHeld ?_
   (try simp only [Act.put]); try simp only [z2, List.set]
   refine wpAnyH_done (by kernel_rfl) ?_ _
   clear hHeld
   obtain ⟨X3, X4, hX3, hX4, SR3, SR4⟩ := slices_of OL.out HLN.out (k) (by omega)
   rw [E0.out] at SR4
   have SRC4 := Lib.hid (SR4.kept (KZ.out.drew))
   clear hX3 SR3
   have HX4 := Lib.hid (show True from trivial)
   go_wp2_with (at_builtin; refine stopH ?_)
   intro _
   refine wpList_appG rfl _ _ 27 rfl (wb0 + 1) 37 i0 _ 8 88 Try.underlying27 hi0 hz0 hz1 hz2 rfl (by decide) _ (k + 1) _ rfl (own_kept O2.out ((Kept.refl (fun _ => False) w2).drew) (fun _ _ f => f)) (0) (cellsS (L.drop (k))) X4 rfl SRC4.out (by rw [cellsS_length, List.length_drop, HLN.out]; rw [E0.out]) (cellsS_one _) (by unfold maxLen; omega) (by omega) (WB.out _ KZ.out.drew) ?_
   intro ao4 cap4 w4 own4 k4 hat4
   have O4 := Lib.hid own4
   have K4 := Lib.hid (KZ.out.drew.trans k4 (fun _ _ f => f) (fun q hq h => by have h1 := own_from O2.out h; have h2 := WBE.out; omega) : Kept (fun _ => False) wB w4)
   clear own4 k4 hat4 hX4
   go_wp2
   go_ret
   have e : putR s L = L.take k ++ [s] ++ L.drop (k) := by exact put_at PO.out SA.out
   have el : (putR s L).length = k + 1 + (0) := by rw [e, List.length_append, List.length_append, List.length_take, List.length_drop, HLN.out, Nat.min_eq_left (by omega)]; rw [E0.out]; rfl
   exact ⟨_, rfl, by rw [el, e, cellsS_append, cellsS_append, show cellsS [s] = s.cells by simp [cellsS]]; exact own_lo O4.out (Nat.le_succ wb0), keptFF KB.out K4.out⟩
end Go.Proofs.Ytibakmchgppndaa
/- spoorref21's R: the spans that have not expired, by trace and ID. -/
namespace Go.Proofs.Ytibakmchgppndaa
open Go.RowKit

theorem own_low {w : World} {b0 b1 e size : Nat} {v : Value} {n : Nat} {xs : List Value} (h : w.ownsRow b1 e size v n xs) (hb : b0 ≤ b1) : w.ownsRow b0 e size v n xs := by
 obtain ⟨h1, h2⟩ := h
 refine ⟨h1, ?_⟩
 rcases h2 with h2 | ⟨g, cap, cur, rfl, hg, rest⟩
 ·exact .inl h2
 ·exact .inr ⟨g, cap, cur, rfl, Nat.le_trans hb hg, rest⟩
theorem posR_le (s : Spn) : ∀ L, posR s L ≤ L.length
 | [] => Nat.le_refl _
 | m :: t => by
  rw [posR]
  split
  ·have := posR_le s t; simp; omega
  ·simp
theorem putR_len (s : Spn) (L : List Spn) : (putR s L).length ≤ L.length + 1 := by
 have h := posR_le s L
 unfold putR
 rw [List.length_append, List.length_append, List.length_take, List.length_drop]
 split <;> simp <;> omega
noncomputable def foldR (L : List Spn) : List Spn := L.foldl (fun a s => putR s a) []
theorem foldR_snoc (L : List Spn) (x : Spn) : foldR (L ++ [x]) = putR x (foldR L) := by simp [foldR]
theorem foldR_len_aux : ∀ (L a : List Spn), (L.foldl (fun a s => putR s a) a).length ≤ a.length + L.length
 | [], a => Nat.le_refl _
 | x :: t, a => by
  have h1 := foldR_len_aux t (putR x a)
  have h2 := putR_len x a
  simp only [List.foldl_cons, List.length_cons]; omega
theorem foldR_len (L : List Spn) : (foldR L).length ≤ L.length := by have := foldR_len_aux L []; simpa [foldR] using this
set_option maxHeartbeats 8000000 in
set_option maxRecDepth 100000 in
theorem r_all {w : World} {mp base : Nat} {v : Value} {L : List Spn} (now : Int) (h1 : 0 ≤ now) (h2 : now ≤ 4294967296) (hc : w.cell? ⟨mp, 0, none⟩ = some v) (ho : w.ownsRow base 37 8 v L.length (cellsS L)) (hm : ∀ m ∈ L, chkB m = true) (hl : L.length ≤ 1000000) :
  Calls Try.prog 15 #[.pointer (some ⟨mp, 0, none⟩), .int .i64 now] w fun e w' => ∃ v', e = .returned v' ∧ w'.ownsRow w.heap.size 37 8 v' (foldR (liveF now L)).length (cellsS (foldR (liveF now L))) ∧ Kept (fun _ => False) w w' := by
 obtain ⟨la, cap, rfl⟩ := own_slice ho
 obtain ⟨n, hn⟩ : ∃ n, L.length = n := ⟨_, rfl⟩
 rw [hn] at ho hc hl
 have HLN := Lib.hid hn
 have OL := Lib.hid ho
 have HC := Lib.hid hc
 have HM := Lib.hid hm
 clear ho hn hm hc
 go_enter Try.func15, Try.ntmps15
 go_wp2
 go_loopg [5, 6] n (fun gh s t wr => ∃ i : Nat, i + gh = n ∧ t = .int .i64 i ∧ wr.ownsRow w.heap.size 37 8 s (foldR (liveF now (L.take i))).length (cellsS (foldR (liveF now (L.take i)))) ∧ Kept (fun _ => False) w wr)
 case atStart => exact ⟨0, by omega, rfl, World.ownsRow_nil _ _ _ _, Kept.refl _ _⟩
 case round =>
  obtain ⟨i, ji, rfl, ho, kr⟩ := hrel
  have JI := Lib.hid ji; have OO := Lib.hid ho; have KR := Lib.hid kr
  have hc := kr.cell HC.out (fun f => f)
  obtain ⟨ao, co, rfl⟩ := own_slice ho
  clear ji ho kr
  have i0 : (0 : Int) ≤ (i : Int) := by omega
  by_cases hin : i < n
  ·have i1 : (i : Int) < (n : Int) := by omega
   have i2 : (i : Int) ≤ 1000000 := by omega
   obtain ⟨x, hx⟩ : ∃ x, L[i]? = some x := ⟨_, List.getElem?_eq_getElem (by rw [HLN.out]; exact hin)⟩
   obtain ⟨g, rfl, hcs⟩ : ∃ g, la = some ⟨g, 0, none⟩ ∧ ∀ j u, (cellsS L)[j]? = some u → w.cell? ⟨g, j, none⟩ = some u := by
    rcases row_form OL.out with ⟨h1, h2⟩ | ⟨g, c, h1, _, _, _, hc2⟩
    ·omega
    ·cases h1; exact ⟨g, rfl, hc2⟩
   have rB := ReadsS.at (o := 0) (fun j u hu => by rw [Nat.zero_add]; exact KR.out.cell (hcs j u hu) (fun f => f)) hx
   rw [Nat.zero_add] at rB
   obtain ⟨q0, q1, q2, q3, q4, q5, q6, q7⟩ := rB
   have num := (chk_num (HM.out x (List.mem_of_getElem? hx))).2.2.2.1
   have E := Lib.hid (rexpired_all x now num.1 num.2 h1 h2)
   obtain ⟨be, hbe⟩ : ∃ c, lateB x.st now = c := ⟨_, rfl⟩
   rw [hbe] at E
   have BE := Lib.hid hbe
   have HX := Lib.hid hx
   have LT := Lib.hid (live_take now L hx)
   clear hcs hx num hbe
   go_wp2_with fail
   refine (E.out _).mono ?_
   rintro e w3 ⟨rfl, k3⟩
   have K3 := Lib.hid (keptFF KR.out k3)
   have O3 := Lib.hid (own_kept OO.out k3 (fun _ _ f => f))
   replace hc := k3.cell hc (fun f => f)
   replace q0 := k3.cell q0 (fun f => f)
   replace q1 := k3.cell q1 (fun f => f)
   replace q2 := k3.cell q2 (fun f => f)
   replace q3 := k3.cell q3 (fun f => f)
   replace q4 := k3.cell q4 (fun f => f)
   replace q5 := k3.cell q5 (fun f => f)
   replace q6 := k3.cell q6 (fun f => f)
   replace q7 := k3.cell q7 (fun f => f)
   clear k3
   cases be with
   | true =>
    go_wp2
    go_roundg (n - i - 1)
    case measure => have := JI.out; omega
    case rel =>
     have e1 : liveF now [x] = [] := by unfold liveF; simp [BE.out]
     have e := LT.out
     rw [e1, List.append_nil] at e
     exact ⟨i + 1, by have := JI.out; omega, by go_num, by rw [e]; exact O3.out, K3.out⟩
   | false =>
    have fl : (foldR (liveF now (L.take i))).length ≤ 1000000000 := by
     have a1 := foldR_len (liveF now (L.take i))
     have a2 := live_len now (L.take i)
     rw [List.length_take] at a2
     omega
    have P := Lib.hid (put_all x O3.out fl)
    unfold aggS at P
    clear fl
    go_wp2_with fail
    refine P.out.mono ?_
    rintro e w4 ⟨v4, rfl, o4, k4⟩
    have K4 := Lib.hid (keptFF K3.out k4)
    have O4 := Lib.hid (own_low o4 K3.out.size)
    clear o4 k4 q0 q1 q2 q3 q4 q5 q6 q7 hc
    go_wp2
    go_roundg (n - i - 1)
    case measure => have := JI.out; omega
    case rel =>
     have e1 : liveF now [x] = [x] := by unfold liveF; simp [BE.out]
     have e := LT.out
     rw [e1] at e
     exact ⟨i + 1, by have := JI.out; omega, by go_num, by rw [e, foldR_snoc]; exact O4.out, K4.out⟩
  ·have i1 : ¬ (i : Int) < (n : Int) := by omega
   have ei : L.take i = L := List.take_of_length_le (by rw [HLN.out]; omega)
   rw [ei] at OO
   go_wp2
   go_ret
   exact ⟨_, rfl, OO.out, KR.out⟩
end Go.Proofs.Ytibakmchgppndaa
/- spoorref21.Take: the spans that come and are taken, by those that are there. -/
namespace Go.Proofs.Ytibakmchgppndaa
open Go.RowKit

/-- Some one of them has this key, and has not expired. -/
def barT (now : Int) (s : Spn) : List Spn → Bool
 | [] => false
 | x :: t => (decide (keyOf x = keyOf s) && !lateB x.st now) || barT now s t
def barO (s : Spn) : List Spn → Bool
 | [] => false
 | x :: t => decide (keyOf x = keyOf s) || barO s t
theorem barT_snoc (now : Int) (s x : Spn) : ∀ L, barT now s (L ++ [x]) = (barT now s L || (decide (keyOf x = keyOf s) && !lateB x.st now))
 | [] => by simp [barT]
 | y :: t => by simp only [List.cons_append, barT, barT_snoc now s x t, Bool.or_assoc]
theorem barO_snoc (s x : Spn) : ∀ L, barO s (L ++ [x]) = (barO s L || decide (keyOf x = keyOf s))
 | [] => by simp [barO]
 | y :: t => by simp only [List.cons_append, barO, barO_snoc s x t, Bool.or_assoc]
theorem rtake_snoc {R : List Spn} {i : Nat} {x : Spn} (h : R[i]? = some x) : R.take (i + 1) = R.take i ++ [x] := by rw [List.take_add_one, h]; rfl
def okR (now : Int) (there out : List Spn) (s : Spn) : Bool := (((chkB s && !lateB s.st now) && !barT now s there) && !barO s out)
def takeR (now : Int) (there : List Spn) : List Spn → List Spn → List Spn
 | [], out => out
 | s :: t, out => takeR now there t (if okR now there out s = true then out ++ [s] else out)
theorem kept_dn {S : Nat → Prop} {a w : World} (h : Kept S a w) (n : Nat) : Kept S a (w.drewN n) := ⟨h.os, h.tape, h.output, h.size, h.block⟩
theorem key_iff {x y : Spn} : keyOf x = keyOf y ↔ (x.tr = y.tr ∧ x.id = y.id) := by unfold keyOf; exact Prod.mk.injEq _ _ _ _ ▸ Iff.rfl
theorem takeR_len (now : Int) (there : List Spn) : ∀ l out, (takeR now there l out).length ≤ out.length + l.length
 | [], out => Nat.le_refl _
 | s :: t, out => by
  have h := takeR_len now there t (if okR now there out s = true then out ++ [s] else out)
  rw [takeR]
  refine Nat.le_trans h ?_
  split <;> simp <;> omega
set_option maxHeartbeats 32000000 in
set_option maxRecDepth 100000 in
theorem rtake_all {w : World} {va vb : Value} {A B : List Spn} (now : Int) (h1 : 0 ≤ now) (h2 : now ≤ 4294967296) (ha : ReadsS w va A) (hb : ReadsS w vb B) (hA : ∀ m ∈ A, chkB m = true) (hB : ∀ m ∈ B, Fits m) (hlA : A.length ≤ 1000000) (hlB : B.length ≤ 1000000) :
  Calls Try.prog 35 #[va, vb, .int .i64 now] w fun e w' => ∃ v', e = .returned v' ∧ w'.ownsRow w.heap.size 37 8 v' (takeR now A B []).length (cellsS (takeR now A B [])) ∧ Kept (fun _ => False) w w' := by
 obtain ⟨i0, hi0, hz0, hz1, hz2⟩ := info_parts inf37
 obtain ⟨aa, ca, rfl, ha⟩ := ha
 obtain ⟨ab, cb, rfl, hb⟩ := hb
 have RA := Lib.hid ha; have RB := Lib.hid hb; have CA := Lib.hid hA; have FB := Lib.hid hB
 obtain ⟨na, hna⟩ : ∃ n, A.length = n := ⟨_, rfl⟩
 obtain ⟨nb, hnb⟩ : ∃ n, B.length = n := ⟨_, rfl⟩
 rw [hna] at hlA ⊢
 rw [hnb] at hlB ⊢
 have NA := Lib.hid hna; have NB := Lib.hid hnb
 obtain ⟨TR, hTR⟩ : ∃ T, takeR now A B [] = T := ⟨_, rfl⟩
 have T0 := Lib.hid hTR
 rw [hTR]
 have TLEN := Lib.hid (show TR.length ≤ nb by rw [← hTR, ← hnb]; have := takeR_len now A B []; simpa using this)
 clear ha hb hA hB hna hnb hTR
 go_enter Try.func35, Try.ntmps35
 go_wp2
 go_loopg [7, 8] nb (fun gh s t wr => ∃ (i : Nat) (O : List Spn), i + gh = nb ∧ O.length ≤ i ∧ t = .int .i64 i ∧ wr.ownsRow w.heap.size 37 8 s O.length (cellsS O) ∧ takeR now A (B.drop i) O = TR ∧ Kept (fun _ => False) w wr)
 case atStart => exact ⟨0, [], by omega, Nat.le_refl _, rfl, World.ownsRow_nil _ _ _ _, by rw [List.drop_zero]; exact T0.out, Kept.refl _ _⟩
 case round =>
  obtain ⟨i, O, ji, jo, rfl, ho, tr, kr⟩ := hrel
  have JI := Lib.hid ji; have OO := Lib.hid ho; have KR := Lib.hid kr; have TI := Lib.hid tr
  obtain ⟨ao, co, rfl⟩ := own_slice ho
  clear ji ho kr tr
  have i0' : (0 : Int) ≤ (i : Int) := by omega
  by_cases hin : i < nb
  ·have i1 : (i : Int) < (nb : Int) := by omega
   have i2 : (i : Int) ≤ 1000000 := by omega
   obtain ⟨y, hy⟩ : ∃ y, B[i]? = some y := ⟨_, List.getElem?_eq_getElem (by rw [NB.out]; exact hin)⟩
   obtain ⟨gl, ol, rfl, hcb⟩ : ∃ g o, ab = some ⟨g, o, none⟩ ∧ ∀ j u, (cellsS B)[j]? = some u → w.cell? ⟨g, o + j, none⟩ = some u := by
    rcases RB.out with h | h
    ·have := NB.out; subst h; simp at this; omega
    ·exact h
   have YW := Lib.hid (ReadsS.at hcb hy)
   have fy := FB.out y (List.mem_of_getElem? hy)
   have C := Lib.hid (rcheck_all y fy.1 fy.2.1 fy.2.2)
   obtain ⟨bc, hbc⟩ : ∃ c, chkB y = c := ⟨_, rfl⟩
   have BC := Lib.hid hbc
   rw [hbc] at C
   have HY := Lib.hid hy
   obtain ⟨n, hn⟩ : ∃ n, O.length = n := ⟨_, rfl⟩
   have LN := Lib.hid hn
   rw [hn] at OO jo ⊢
   obtain ⟨q0, q1, q2, q3, q4, q5, q6, q7⟩ := YW.out
   replace q0 := KR.out.cell q0 (fun f => f)
   replace q1 := KR.out.cell q1 (fun f => f)
   replace q2 := KR.out.cell q2 (fun f => f)
   replace q3 := KR.out.cell q3 (fun f => f)
   replace q4 := KR.out.cell q4 (fun f => f)
   replace q5 := KR.out.cell q5 (fun f => f)
   replace q6 := KR.out.cell q6 (fun f => f)
   replace q7 := KR.out.cell q7 (fun f => f)
   clear hcb hy hbc hn fy
   unfold aggS at C
   go_wp2_with fail
   refine (C.out _).mono ?_
   rintro e w3 ⟨rfl, k3⟩
   have K3 := Lib.hid (keptFF KR.out k3)
   replace q0 := k3.cell q0 (fun f => f)
   replace q1 := k3.cell q1 (fun f => f)
   replace q2 := k3.cell q2 (fun f => f)
   replace q3 := k3.cell q3 (fun f => f)
   replace q4 := k3.cell q4 (fun f => f)
   replace q5 := k3.cell q5 (fun f => f)
   replace q6 := k3.cell q6 (fun f => f)
   replace q7 := k3.cell q7 (fun f => f)
   have O3 := Lib.hid (own_kept OO.out k3 (fun _ _ f => f))
   clear k3
   cases bc with
   | false =>
    have BB := Lib.hid (show (chkB y && !lateB y.st now) = false by rw [BC.out]; rfl)
    obtain ⟨b, hb⟩ : ∃ b, false = b := ⟨_, rfl⟩
    have HB := Lib.hid hb
    rw [hb] at BB
    clear hb
    have K4 := K3; have O4 := O3
    clear q0 q1 q2 q3 q4 q5 q6 q7
    go_wp2
    go_loopg [9, 10] na (fun gh s t wr => ∃ k : Nat, k + gh = na ∧ t = .int .i64 k ∧ s = .bool (b && !barT now y (A.take k)) ∧ Kept (fun _ => False) w3 wr)
    case atStart => exact ⟨0, by omega, rfl, by rw [List.take_zero, ← BB.out]; simp [barT, BC.out], Kept.refl _ _⟩
    case round =>
     obtain ⟨k, jk, rfl, rfl, kk⟩ := hrel
     have JK := Lib.hid jk; have KK := Lib.hid kk
     obtain ⟨c, hc⟩ : ∃ c, (b && !barT now y (A.take k)) = c := ⟨_, rfl⟩
     have CC := Lib.hid hc
     rw [hc]
     clear jk kk hc
     have k0 : (0 : Int) ≤ (k : Int) := by omega
     by_cases hkn : k < na
     ·have k1 : (k : Int) < (na : Int) := by omega
      have k2 : (k : Int) ≤ 1000000 := by omega
      obtain ⟨x, hx⟩ : ∃ x, A[k]? = some x := ⟨_, List.getElem?_eq_getElem (by rw [NA.out]; exact hkn)⟩
      obtain ⟨gt, ot, rfl, hca⟩ : ∃ g o, aa = some ⟨g, o, none⟩ ∧ ∀ j u, (cellsS A)[j]? = some u → w.cell? ⟨g, o + j, none⟩ = some u := by
       rcases RA.out with h | h
       ·have := NA.out; subst h; simp at this; omega
       ·exact h
      have KW := keptFF K4.out KK.out
      have rx := ReadsS.at (fun j u hu => KW.cell (hca j u hu) (fun f => f)) hx
      have y0 := KW.cell YW.out.1 (fun f => f)
      have y1 := KW.cell YW.out.2.1 (fun f => f)
      have HX := Lib.hid hx
      have xc := CA.out x (List.mem_of_getElem? hx)
      have BS := Lib.hid (show barT now y (A.take (k + 1)) = (barT now y (A.take k) || (decide (keyOf x = keyOf y) && !lateB x.st now)) by rw [rtake_snoc hx, barT_snoc])
      clear hca KW hx
      by_cases c1 : x.tr = y.tr
      ·by_cases c2 : x.id = y.id
       ·have num := (chk_num xc).2.2.2.1
        have E9 := Lib.hid (rexpired_all x now num.1 num.2 h1 h2)
        obtain ⟨bl, hbl⟩ : ∃ c, lateB x.st now = c := ⟨_, rfl⟩
        rw [hbl] at E9 BS
        rw [decide_eq_true (key_iff.2 ⟨c1, c2⟩)] at BS
        have d1 : (x.tr == y.tr) = true := by simp [c1]
        have d2 : (x.id == y.id) = true := by simp [c2]
        unfold aggS at E9
        clear num xc hbl c1 c2
        go_wp2
        refine wp_region_held_drew (S := (fun w' => (w'.cell? ⟨gt, ot + k * 8, none⟩ = some (.int .i64 x.tr) ∧ w'.cell? ⟨gt, ot + k * 8 + 1, none⟩ = some (.int .i64 x.id) ∧ w'.cell? ⟨gt, ot + k * 8 + 2, none⟩ = some (.int .i64 x.pa) ∧ w'.cell? ⟨gt, ot + k * 8 + 3, none⟩ = some (.string x.se) ∧ w'.cell? ⟨gt, ot + k * 8 + 4, none⟩ = some (.string x.ho) ∧ w'.cell? ⟨gt, ot + k * 8 + 5, none⟩ = some (.int .i64 x.st) ∧ w'.cell? ⟨gt, ot + k * 8 + 6, none⟩ = some (.int .i64 x.du) ∧ w'.cell? ⟨gt, ot + k * 8 + 7, none⟩ = some (.string x.no)) ∧ (w'.cell? ⟨gl, ol + i * 8, none⟩ = some (.int .i64 y.tr) ∧ w'.cell? ⟨gl, ol + i * 8 + 1, none⟩ = some (.int .i64 y.id)))) (by kernel_rfl) ?_ (fun hHeld => ?_)
        ·exact ⟨rx, y0, y1⟩
        refine tW 0 opAt0 hHeld ?_
        (try simp only [Act.put]); try simp only [z2, List.set]
        refine tW 1 opAt1 hHeld ?_
        (try simp only [Act.put]); try simp only [z2, List.set]
        refine tW 2 opAt2 hHeld ?_
        (try simp only [Act.put]); try simp only [z2, List.set]
        refine tW 3 opAt3 hHeld ?_
        (try simp only [Act.put]); try simp only [z2, List.set]
        refine tW 4 opAt4 hHeld ?_
        (try simp only [Act.put]); try simp only [z2, List.set]
        refine tW 5 opAt5 hHeld ?_
        (try simp only [Act.put]); try simp only [z2, List.set]
        refine tW 6 opAt6 hHeld ?_
        (try simp only [Act.put]); try simp only [z2, List.set]
        refine tW 7 opAt7 hHeld ?_
        (try simp only [Act.put]); try simp only [z2, List.set]
        refine tW 8 opAt8 hHeld ?_
        (try simp only [Act.put]); try simp only [z2, List.set]
        refine tW 9 opAt9 hHeld ?_
        (try simp only [Act.put]); try simp only [z2, List.set]
        refine tW 10 opAt10 hHeld ?_
        (try simp only [Act.put]); try simp only [z2, List.set]
        refine tW 11 opAt11 hHeld ?_
        (try simp only [Act.put]); try simp only [z2, List.set]
        refine tW 12 opAt12 hHeld ?_
        (try simp only [Act.put]); try simp only [z2, List.set]
        refine tW 13 opAt13 hHeld ?_
        (try simp only [Act.put]); try simp only [z2, List.set]
        refine tW 14 opAt14 hHeld ?_
        (try simp only [Act.put]); try simp only [z2, List.set]
        refine tW 15 opAt15 hHeld ?_
        (try simp only [Act.put]); try simp only [z2, List.set]
        refine tW 16 opAt16 hHeld ?_
        (try simp only [Act.put]); try simp only [z2, List.set]
        refine tW 17 opAt17 hHeld ?_
        (try simp only [Act.put]); try simp only [z2, List.set]
        refine tW 18 opAt18 hHeld ?_
        (try simp only [Act.put]); try simp only [z2, List.set]
        refine tW 19 opAt19 hHeld ?_
        (try simp only [Act.put]); try simp only [z2, List.set]
        refine tW 20 opAt20 hHeld ?_
        (try simp only [Act.put]); try simp only [z2, List.set]
        refine tW 21 opAt21 hHeld ?_
        (try simp only [Act.put]); try simp only [z2, List.set]
        refine tW 22 opAt22 hHeld ?_
        (try simp only [Act.put]); try simp only [z2, List.set]
        refine tW 23 opAt23 hHeld ?_
        (try simp only [Act.put]); try simp only [z2, List.set]
        refine tW 24 opAt24 hHeld ?_
        (try simp only [Act.put]); try simp only [z2, List.set]
        refine tW 25 opAt25 hHeld ?_
        (try simp only [Act.put]); try simp only [z2, List.set]
        refine tW 26 opAt26 hHeld ?_
        (try simp only [Act.put]); try simp only [z2, List.set]
        refine tW 27 opAt27 hHeld ?_
        (try simp only [Act.put]); try simp only [z2, List.set]
        refine tH (v := ?_) 28 opAt28 ?_ hHeld ?_
        case refine_2 => (intro w hSw; (try dsimp only at hSw); obtain ⟨x0, x1, x2, x3, x4, x5, x6, x7⟩ := hSw.1; clear hSw; go_simp; all_goals (with_reducible rfl))
        (try simp only [Act.put]); try simp only [z2, List.set]
        refine tW 29 opAt29 hHeld ?_
        (try simp only [Act.put]); try simp only [z2, List.set]
        refine wpAnyH_ready (rs := [30]) (by kernel_rfl) (by simp) ?_
        refine AllReadyH.cons opAt30 (fun K hK => ?_) AllReadyH.nil
        go_simp
        go_at_call 36; refine (E9.out _).mono ?_; rintro e w7 ⟨rfl, k7⟩; dsimp only
        refine hK.out _ _ ?_ (fun hHeld => ?_)
        ·exact ⟨⟨k7.cell hHeld.1.1 (fun f => f), k7.cell hHeld.1.2.1 (fun f => f), k7.cell hHeld.1.2.2.1 (fun f => f), k7.cell hHeld.1.2.2.2.1 (fun f => f), k7.cell hHeld.1.2.2.2.2.1 (fun f => f), k7.cell hHeld.1.2.2.2.2.2.1 (fun f => f), k7.cell hHeld.1.2.2.2.2.2.2.1 (fun f => f), k7.cell hHeld.1.2.2.2.2.2.2.2 (fun f => f)⟩, k7.cell hHeld.2.1 (fun f => f), k7.cell hHeld.2.2 (fun f => f)⟩
        clear hK K
        (try simp only [Act.put]); try simp only [z2, List.set]
        refine tW 31 opAt31 hHeld ?_
        (try simp only [Act.put]); try simp only [z2, List.set]
        refine tW 32 opAt32 hHeld ?_
        (try simp only [Act.put]); try simp only [z2, List.set]
        refine wpAnyH_done (by kernel_rfl) ?_ _
        have KN := Lib.hid (keptFF KK.out.drew k7)
        clear hHeld k7 d1 d2 rx y0 y1
        cases bl with
        | true =>
         go_wp2
         go_roundg (na - k - 1)
         case measure => have := JK.out; omega
         case rel => exact ⟨k + 1, by have := JK.out; omega, by go_num, by rw [BS.out, ← CC.out]; simp, KN.out⟩
        | false =>
         go_wp2
         go_roundg (na - k - 1)
         case measure => have := JK.out; omega
         case rel => exact ⟨k + 1, by have := JK.out; omega, by go_num, by rw [BS.out]; simp, KN.out⟩
       ·have d1 : (x.tr == y.tr) = true := by simp [c1]
        have d2 : (x.id == y.id) = false := by simp [c2]
        rw [decide_eq_false (fun e => c2 (key_iff.1 e).2)] at BS
        obtain ⟨x0, x1, _, _, _, _, _, _⟩ := rx
        clear xc c2 c1
        go_wp2
        go_quiet (fail)
        go_wp2
        go_roundg (na - k - 1)
        case measure => have := JK.out; omega
        case rel => exact ⟨k + 1, by have := JK.out; omega, by go_num, by rw [BS.out, ← CC.out]; simp, kept_dn KK.out _⟩
      ·have d1 : (x.tr == y.tr) = false := by simp [c1]
       rw [decide_eq_false (fun e => c1 (key_iff.1 e).1)] at BS
       obtain ⟨x0, x1, _, _, _, _, _, _⟩ := rx
       clear xc c1
       go_wp2
       go_quiet (fail)
       go_wp2
       go_roundg (na - k - 1)
       case measure => have := JK.out; omega
       case rel => exact ⟨k + 1, by have := JK.out; omega, by go_num, by rw [BS.out, ← CC.out]; simp, kept_dn KK.out _⟩
     ·have k1 : ¬ (k : Int) < (na : Int) := by omega
      have ek : A.take k = A := List.take_of_length_le (by rw [NA.out]; omega)
      rw [ek] at CC
      have K5 := Lib.hid (keptFF K4.out KK.out)
      have O5 := Lib.hid (own_kept O4.out KK.out (fun _ _ f => f))
      obtain ⟨w5, hw5⟩ : ∃ W, wr = W := ⟨_, rfl⟩
      rw [hw5] at K5 O5 ⊢
      clear hw5 ek
      go_wp2
      go_loopg [9, 11] n (fun gh s t wr => ∃ k : Nat, k + gh = n ∧ t = .int .i64 k ∧ s = .bool (c && !barO y (O.take k)) ∧ Kept (fun _ => False) w5 wr)
      case atStart => exact ⟨0, by omega, rfl, by rw [List.take_zero]; simp [barO], Kept.refl _ _⟩
      case round =>
       obtain ⟨k, jk, rfl, rfl, kk⟩ := hrel
       have JK := Lib.hid jk; have KK := Lib.hid kk
       obtain ⟨d, hd⟩ : ∃ d, (c && !barO y (O.take k)) = d := ⟨_, rfl⟩
       have DD := Lib.hid hd
       rw [hd]
       clear jk kk hd
       have k0 : (0 : Int) ≤ (k : Int) := by omega
       by_cases hkn : k < n
       ·have k1 : (k : Int) < (n : Int) := by omega
        have k2 : (k : Int) ≤ 1000000 := by omega
        obtain ⟨x, hx⟩ : ∃ x, O[k]? = some x := ⟨_, List.getElem?_eq_getElem (by rw [LN.out]; exact hkn)⟩
        obtain ⟨go, rfl, hco⟩ : ∃ g, ao = some ⟨g, 0, none⟩ ∧ ∀ j u, (cellsS O)[j]? = some u → w5.cell? ⟨g, j, none⟩ = some u := by
         rcases row_form O5.out with ⟨h1, h2⟩ | ⟨g, c, h1, _, _, _, hc2⟩
         ·omega
         ·cases h1; exact ⟨g, rfl, hc2⟩
        have rx := ReadsS.at (o := 0) (fun j u hu => by rw [Nat.zero_add]; exact KK.out.cell (hco j u hu) (fun f => f)) hx
        rw [Nat.zero_add] at rx
        obtain ⟨x0, x1, _, _, _, _, _, _⟩ := rx
        have KW := keptFF K5.out KK.out
        have y0 := KW.cell YW.out.1 (fun f => f)
        have y1 := KW.cell YW.out.2.1 (fun f => f)
        have BS := Lib.hid (show barO y (O.take (k + 1)) = (barO y (O.take k) || decide (keyOf x = keyOf y)) by rw [rtake_snoc hx, barO_snoc])
        clear hco KW hx
        by_cases c1 : x.tr = y.tr
        ·by_cases c2 : x.id = y.id
         ·have d1 : (x.tr == y.tr) = true := by simp [c1]
          have d2 : (x.id == y.id) = true := by simp [c2]
          rw [decide_eq_true (key_iff.2 ⟨c1, c2⟩)] at BS
          clear c1 c2
          go_wp2
          go_quiet (fail)
          go_wp2
          go_roundg (n - k - 1)
          case measure => have := JK.out; omega
          case rel => exact ⟨k + 1, by have := JK.out; omega, by go_num, by rw [BS.out]; simp, kept_dn KK.out _⟩
         ·have d1 : (x.tr == y.tr) = true := by simp [c1]
          have d2 : (x.id == y.id) = false := by simp [c2]
          rw [decide_eq_false (fun e => c2 (key_iff.1 e).2)] at BS
          clear c1 c2
          go_wp2
          go_quiet (fail)
          go_wp2
          go_roundg (n - k - 1)
          case measure => have := JK.out; omega
          case rel => exact ⟨k + 1, by have := JK.out; omega, by go_num, by rw [BS.out, ← DD.out]; simp, kept_dn KK.out _⟩
        ·have d1 : (x.tr == y.tr) = false := by simp [c1]
         rw [decide_eq_false (fun e => c1 (key_iff.1 e).1)] at BS
         clear c1
         go_wp2
         go_quiet (fail)
         go_wp2
         go_roundg (n - k - 1)
         case measure => have := JK.out; omega
         case rel => exact ⟨k + 1, by have := JK.out; omega, by go_num, by rw [BS.out, ← DD.out]; simp, kept_dn KK.out _⟩
       ·have k1 : ¬ (k : Int) < (n : Int) := by omega
        have ek : O.take k = O := List.take_of_length_le (by rw [LN.out]; omega)
        have K6 := Lib.hid (keptFF K5.out KK.out)
        have O6 := Lib.hid (own_kept O5.out KK.out (fun _ _ f => f))
        have ST := Lib.hid (show okR now A O y = d by
         rw [← DD.out, ek, ← CC.out, ← BB.out]; rfl)
        obtain ⟨q0, q1, q2, q3, q4, q5, q6, q7⟩ := YW.out
        replace q0 := K6.out.cell q0 (fun f => f)
        replace q1 := K6.out.cell q1 (fun f => f)
        replace q2 := K6.out.cell q2 (fun f => f)
        replace q3 := K6.out.cell q3 (fun f => f)
        replace q4 := K6.out.cell q4 (fun f => f)
        replace q5 := K6.out.cell q5 (fun f => f)
        replace q6 := K6.out.cell q6 (fun f => f)
        replace q7 := K6.out.cell q7 (fun f => f)
        have TS := Lib.hid (show takeR now A (B.drop (i + 1)) (if d = true then O ++ [y] else O) = TR by
         have := TI.out
         rw [← drop_step HY.out, takeR, ST.out] at this
         exact this)
        clear ek
        cases d with
        | false =>
         go_wp2
         go_roundg (nb - i - 1)
         case measure => have := JI.out; omega
         case rel => exact ⟨i + 1, O, by have := JI.out; omega, by rw [LN.out]; omega, by go_num, by rw [LN.out]; exact O6.out, TS.out, K6.out⟩
        | true =>
         have sz := K6.out.size
         obtain ⟨w6, hw6⟩ : ∃ W, wr = W := ⟨_, rfl⟩
         rw [hw6] at K6 O6 sz q0 q1 q2 q3 q4 q5 q6 q7 ⊢
         clear hw6
         go_wp2_with (at_builtin; refine stopH ?_)
         intro _
         refine wpList_append_own _ rfl _ _ 27 rfl w.heap.size 37 i0 _ 8 88 Try.underlying27 hi0 hz0 hz1 hz2 rfl (by decide) _ n _ rfl (own_kept O6.out ((Kept.refl (fun _ => False) w6).alloc _) (fun _ _ f => f)) ⟨w6.heap.size, 0, none⟩ 1 1 y.cells rfl rfl (World.news_of_block (heap_alloc_new w6 _)) ?qa ?qb ?qc ?qd ?_
         case qa => intro u hu; simp [Spn.cells] at hu; rcases hu with rfl | rfl | rfl | rfl | rfl | rfl | rfl | rfl <;> rfl
         case qb => unfold maxLen; omega
         case qc => omega
         case qd => simp; omega
         intro v8 w8 own8 hg8 hn8
         have K8 := Lib.hid (((K6.out.alloc (Obj.cells #[.int .i64 y.tr, .int .i64 y.id, .int .i64 y.pa, .string y.se, .string y.ho, .int .i64 y.st, .int .i64 y.du, .string y.no] 37)) : Kept (fun _ => False) w _).grown hg8 (fun q hq hlt => by have h1 := own_from O6.out hq; omega))
         have O8 := Lib.hid own8
         obtain ⟨ao8, cap8, rfl⟩ := own_slice own8
         clear own8 hg8 hn8 q0 q1 q2 q3 q4 q5 q6 q7
         go_wp2
         go_roundg (nb - i - 1)
         case measure => have := JI.out; omega
         case rel =>
          have e2 : (O ++ [y]).length = n + 1 := by rw [List.length_append, LN.out]; rfl
          have e3 : cellsS (O ++ [y]) = cellsS O ++ y.cells := by rw [cellsS_append]; simp [cellsS]
          exact ⟨i + 1, O ++ [y], by have := JI.out; omega, by rw [e2]; omega, by go_num, by rw [e2, e3]; exact O8.out, TS.out, K8.out⟩
   | true =>
    have num := (chk_num BC.out).2.2.2.1
    have E := Lib.hid (rexpired_all y now num.1 num.2 h1 h2)
    obtain ⟨be, hbe⟩ : ∃ c, lateB y.st now = c := ⟨_, rfl⟩
    rw [hbe] at E
    have BE := Lib.hid hbe
    unfold aggS at E
    clear num hbe
    obtain ⟨b, hb⟩ : ∃ b, (!be) = b := ⟨_, rfl⟩
    have BB := Lib.hid (show (chkB y && !lateB y.st now) = b by rw [BC.out, BE.out, hb]; rfl)
    go_wp2_with fail
    refine (E.out _).mono ?_
    rintro e w4 ⟨rfl, k4⟩
    have K4 := Lib.hid (keptFF K3.out k4)
    have O4 := Lib.hid (own_kept O3.out k4 (fun _ _ f => f))
    clear k4 q0 q1 q2 q3 q4 q5 q6 q7 hb
    go_wp2
    go_loopg [9, 10] na (fun gh s t wr => ∃ k : Nat, k + gh = na ∧ t = .int .i64 k ∧ s = .bool (b && !barT now y (A.take k)) ∧ Kept (fun _ => False) w4 wr)
    case atStart => exact ⟨0, by omega, rfl, by rw [List.take_zero, ← BB.out]; simp [barT, BC.out, BE.out], Kept.refl _ _⟩
    case round =>
     obtain ⟨k, jk, rfl, rfl, kk⟩ := hrel
     have JK := Lib.hid jk; have KK := Lib.hid kk
     obtain ⟨c, hc⟩ : ∃ c, (b && !barT now y (A.take k)) = c := ⟨_, rfl⟩
     have CC := Lib.hid hc
     rw [hc]
     clear jk kk hc
     have k0 : (0 : Int) ≤ (k : Int) := by omega
     by_cases hkn : k < na
     ·have k1 : (k : Int) < (na : Int) := by omega
      have k2 : (k : Int) ≤ 1000000 := by omega
      obtain ⟨x, hx⟩ : ∃ x, A[k]? = some x := ⟨_, List.getElem?_eq_getElem (by rw [NA.out]; exact hkn)⟩
      obtain ⟨gt, ot, rfl, hca⟩ : ∃ g o, aa = some ⟨g, o, none⟩ ∧ ∀ j u, (cellsS A)[j]? = some u → w.cell? ⟨g, o + j, none⟩ = some u := by
       rcases RA.out with h | h
       ·have := NA.out; subst h; simp at this; omega
       ·exact h
      have KW := keptFF K4.out KK.out
      have rx := ReadsS.at (fun j u hu => KW.cell (hca j u hu) (fun f => f)) hx
      have y0 := KW.cell YW.out.1 (fun f => f)
      have y1 := KW.cell YW.out.2.1 (fun f => f)
      have HX := Lib.hid hx
      have xc := CA.out x (List.mem_of_getElem? hx)
      have BS := Lib.hid (show barT now y (A.take (k + 1)) = (barT now y (A.take k) || (decide (keyOf x = keyOf y) && !lateB x.st now)) by rw [rtake_snoc hx, barT_snoc])
      clear hca KW hx
      by_cases c1 : x.tr = y.tr
      ·by_cases c2 : x.id = y.id
       ·have num := (chk_num xc).2.2.2.1
        have E9 := Lib.hid (rexpired_all x now num.1 num.2 h1 h2)
        obtain ⟨bl, hbl⟩ : ∃ c, lateB x.st now = c := ⟨_, rfl⟩
        rw [hbl] at E9 BS
        rw [decide_eq_true (key_iff.2 ⟨c1, c2⟩)] at BS
        have d1 : (x.tr == y.tr) = true := by simp [c1]
        have d2 : (x.id == y.id) = true := by simp [c2]
        unfold aggS at E9
        clear num xc hbl c1 c2
        go_wp2
        refine wp_region_held_drew (S := (fun w' => (w'.cell? ⟨gt, ot + k * 8, none⟩ = some (.int .i64 x.tr) ∧ w'.cell? ⟨gt, ot + k * 8 + 1, none⟩ = some (.int .i64 x.id) ∧ w'.cell? ⟨gt, ot + k * 8 + 2, none⟩ = some (.int .i64 x.pa) ∧ w'.cell? ⟨gt, ot + k * 8 + 3, none⟩ = some (.string x.se) ∧ w'.cell? ⟨gt, ot + k * 8 + 4, none⟩ = some (.string x.ho) ∧ w'.cell? ⟨gt, ot + k * 8 + 5, none⟩ = some (.int .i64 x.st) ∧ w'.cell? ⟨gt, ot + k * 8 + 6, none⟩ = some (.int .i64 x.du) ∧ w'.cell? ⟨gt, ot + k * 8 + 7, none⟩ = some (.string x.no)) ∧ (w'.cell? ⟨gl, ol + i * 8, none⟩ = some (.int .i64 y.tr) ∧ w'.cell? ⟨gl, ol + i * 8 + 1, none⟩ = some (.int .i64 y.id)))) (by kernel_rfl) ?_ (fun hHeld => ?_)
        ·exact ⟨rx, y0, y1⟩
        refine tW 0 opAt0 hHeld ?_
        (try simp only [Act.put]); try simp only [z2, List.set]
        refine tW 1 opAt1 hHeld ?_
        (try simp only [Act.put]); try simp only [z2, List.set]
        refine tW 2 opAt2 hHeld ?_
        (try simp only [Act.put]); try simp only [z2, List.set]
        refine tW 3 opAt3 hHeld ?_
        (try simp only [Act.put]); try simp only [z2, List.set]
        refine tW 4 opAt4 hHeld ?_
        (try simp only [Act.put]); try simp only [z2, List.set]
        refine tW 5 opAt5 hHeld ?_
        (try simp only [Act.put]); try simp only [z2, List.set]
        refine tW 6 opAt6 hHeld ?_
        (try simp only [Act.put]); try simp only [z2, List.set]
        refine tW 7 opAt7 hHeld ?_
        (try simp only [Act.put]); try simp only [z2, List.set]
        refine tW 8 opAt8 hHeld ?_
        (try simp only [Act.put]); try simp only [z2, List.set]
        refine tW 9 opAt9 hHeld ?_
        (try simp only [Act.put]); try simp only [z2, List.set]
        refine tW 10 opAt10 hHeld ?_
        (try simp only [Act.put]); try simp only [z2, List.set]
        refine tW 11 opAt11 hHeld ?_
        (try simp only [Act.put]); try simp only [z2, List.set]
        refine tW 12 opAt12 hHeld ?_
        (try simp only [Act.put]); try simp only [z2, List.set]
        refine tW 13 opAt13 hHeld ?_
        (try simp only [Act.put]); try simp only [z2, List.set]
        refine tW 14 opAt14 hHeld ?_
        (try simp only [Act.put]); try simp only [z2, List.set]
        refine tW 15 opAt15 hHeld ?_
        (try simp only [Act.put]); try simp only [z2, List.set]
        refine tW 16 opAt16 hHeld ?_
        (try simp only [Act.put]); try simp only [z2, List.set]
        refine tW 17 opAt17 hHeld ?_
        (try simp only [Act.put]); try simp only [z2, List.set]
        refine tW 18 opAt18 hHeld ?_
        (try simp only [Act.put]); try simp only [z2, List.set]
        refine tW 19 opAt19 hHeld ?_
        (try simp only [Act.put]); try simp only [z2, List.set]
        refine tW 20 opAt20 hHeld ?_
        (try simp only [Act.put]); try simp only [z2, List.set]
        refine tW 21 opAt21 hHeld ?_
        (try simp only [Act.put]); try simp only [z2, List.set]
        refine tW 22 opAt22 hHeld ?_
        (try simp only [Act.put]); try simp only [z2, List.set]
        refine tW 23 opAt23 hHeld ?_
        (try simp only [Act.put]); try simp only [z2, List.set]
        refine tW 24 opAt24 hHeld ?_
        (try simp only [Act.put]); try simp only [z2, List.set]
        refine tW 25 opAt25 hHeld ?_
        (try simp only [Act.put]); try simp only [z2, List.set]
        refine tW 26 opAt26 hHeld ?_
        (try simp only [Act.put]); try simp only [z2, List.set]
        refine tW 27 opAt27 hHeld ?_
        (try simp only [Act.put]); try simp only [z2, List.set]
        refine tH (v := ?_) 28 opAt28 ?_ hHeld ?_
        case refine_2 => (intro w hSw; (try dsimp only at hSw); obtain ⟨x0, x1, x2, x3, x4, x5, x6, x7⟩ := hSw.1; clear hSw; go_simp; all_goals (with_reducible rfl))
        (try simp only [Act.put]); try simp only [z2, List.set]
        refine tW 29 opAt29 hHeld ?_
        (try simp only [Act.put]); try simp only [z2, List.set]
        refine wpAnyH_ready (rs := [30]) (by kernel_rfl) (by simp) ?_
        refine AllReadyH.cons opAt30 (fun K hK => ?_) AllReadyH.nil
        go_simp
        go_at_call 36; refine (E9.out _).mono ?_; rintro e w7 ⟨rfl, k7⟩; dsimp only
        refine hK.out _ _ ?_ (fun hHeld => ?_)
        ·exact ⟨⟨k7.cell hHeld.1.1 (fun f => f), k7.cell hHeld.1.2.1 (fun f => f), k7.cell hHeld.1.2.2.1 (fun f => f), k7.cell hHeld.1.2.2.2.1 (fun f => f), k7.cell hHeld.1.2.2.2.2.1 (fun f => f), k7.cell hHeld.1.2.2.2.2.2.1 (fun f => f), k7.cell hHeld.1.2.2.2.2.2.2.1 (fun f => f), k7.cell hHeld.1.2.2.2.2.2.2.2 (fun f => f)⟩, k7.cell hHeld.2.1 (fun f => f), k7.cell hHeld.2.2 (fun f => f)⟩
        clear hK K
        (try simp only [Act.put]); try simp only [z2, List.set]
        refine tW 31 opAt31 hHeld ?_
        (try simp only [Act.put]); try simp only [z2, List.set]
        refine tW 32 opAt32 hHeld ?_
        (try simp only [Act.put]); try simp only [z2, List.set]
        refine wpAnyH_done (by kernel_rfl) ?_ _
        have KN := Lib.hid (keptFF KK.out.drew k7)
        clear hHeld k7 d1 d2 rx y0 y1
        cases bl with
        | true =>
         go_wp2
         go_roundg (na - k - 1)
         case measure => have := JK.out; omega
         case rel => exact ⟨k + 1, by have := JK.out; omega, by go_num, by rw [BS.out, ← CC.out]; simp, KN.out⟩
        | false =>
         go_wp2
         go_roundg (na - k - 1)
         case measure => have := JK.out; omega
         case rel => exact ⟨k + 1, by have := JK.out; omega, by go_num, by rw [BS.out]; simp, KN.out⟩
       ·have d1 : (x.tr == y.tr) = true := by simp [c1]
        have d2 : (x.id == y.id) = false := by simp [c2]
        rw [decide_eq_false (fun e => c2 (key_iff.1 e).2)] at BS
        obtain ⟨x0, x1, _, _, _, _, _, _⟩ := rx
        clear xc c2 c1
        go_wp2
        go_quiet (fail)
        go_wp2
        go_roundg (na - k - 1)
        case measure => have := JK.out; omega
        case rel => exact ⟨k + 1, by have := JK.out; omega, by go_num, by rw [BS.out, ← CC.out]; simp, kept_dn KK.out _⟩
      ·have d1 : (x.tr == y.tr) = false := by simp [c1]
       rw [decide_eq_false (fun e => c1 (key_iff.1 e).1)] at BS
       obtain ⟨x0, x1, _, _, _, _, _, _⟩ := rx
       clear xc c1
       go_wp2
       go_quiet (fail)
       go_wp2
       go_roundg (na - k - 1)
       case measure => have := JK.out; omega
       case rel => exact ⟨k + 1, by have := JK.out; omega, by go_num, by rw [BS.out, ← CC.out]; simp, kept_dn KK.out _⟩
     ·have k1 : ¬ (k : Int) < (na : Int) := by omega
      have ek : A.take k = A := List.take_of_length_le (by rw [NA.out]; omega)
      rw [ek] at CC
      have K5 := Lib.hid (keptFF K4.out KK.out)
      have O5 := Lib.hid (own_kept O4.out KK.out (fun _ _ f => f))
      obtain ⟨w5, hw5⟩ : ∃ W, wr = W := ⟨_, rfl⟩
      rw [hw5] at K5 O5 ⊢
      clear hw5 ek
      go_wp2
      go_loopg [9, 11] n (fun gh s t wr => ∃ k : Nat, k + gh = n ∧ t = .int .i64 k ∧ s = .bool (c && !barO y (O.take k)) ∧ Kept (fun _ => False) w5 wr)
      case atStart => exact ⟨0, by omega, rfl, by rw [List.take_zero]; simp [barO], Kept.refl _ _⟩
      case round =>
       obtain ⟨k, jk, rfl, rfl, kk⟩ := hrel
       have JK := Lib.hid jk; have KK := Lib.hid kk
       obtain ⟨d, hd⟩ : ∃ d, (c && !barO y (O.take k)) = d := ⟨_, rfl⟩
       have DD := Lib.hid hd
       rw [hd]
       clear jk kk hd
       have k0 : (0 : Int) ≤ (k : Int) := by omega
       by_cases hkn : k < n
       ·have k1 : (k : Int) < (n : Int) := by omega
        have k2 : (k : Int) ≤ 1000000 := by omega
        obtain ⟨x, hx⟩ : ∃ x, O[k]? = some x := ⟨_, List.getElem?_eq_getElem (by rw [LN.out]; exact hkn)⟩
        obtain ⟨go, rfl, hco⟩ : ∃ g, ao = some ⟨g, 0, none⟩ ∧ ∀ j u, (cellsS O)[j]? = some u → w5.cell? ⟨g, j, none⟩ = some u := by
         rcases row_form O5.out with ⟨h1, h2⟩ | ⟨g, c, h1, _, _, _, hc2⟩
         ·omega
         ·cases h1; exact ⟨g, rfl, hc2⟩
        have rx := ReadsS.at (o := 0) (fun j u hu => by rw [Nat.zero_add]; exact KK.out.cell (hco j u hu) (fun f => f)) hx
        rw [Nat.zero_add] at rx
        obtain ⟨x0, x1, _, _, _, _, _, _⟩ := rx
        have KW := keptFF K5.out KK.out
        have y0 := KW.cell YW.out.1 (fun f => f)
        have y1 := KW.cell YW.out.2.1 (fun f => f)
        have BS := Lib.hid (show barO y (O.take (k + 1)) = (barO y (O.take k) || decide (keyOf x = keyOf y)) by rw [rtake_snoc hx, barO_snoc])
        clear hco KW hx
        by_cases c1 : x.tr = y.tr
        ·by_cases c2 : x.id = y.id
         ·have d1 : (x.tr == y.tr) = true := by simp [c1]
          have d2 : (x.id == y.id) = true := by simp [c2]
          rw [decide_eq_true (key_iff.2 ⟨c1, c2⟩)] at BS
          clear c1 c2
          go_wp2
          go_quiet (fail)
          go_wp2
          go_roundg (n - k - 1)
          case measure => have := JK.out; omega
          case rel => exact ⟨k + 1, by have := JK.out; omega, by go_num, by rw [BS.out]; simp, kept_dn KK.out _⟩
         ·have d1 : (x.tr == y.tr) = true := by simp [c1]
          have d2 : (x.id == y.id) = false := by simp [c2]
          rw [decide_eq_false (fun e => c2 (key_iff.1 e).2)] at BS
          clear c1 c2
          go_wp2
          go_quiet (fail)
          go_wp2
          go_roundg (n - k - 1)
          case measure => have := JK.out; omega
          case rel => exact ⟨k + 1, by have := JK.out; omega, by go_num, by rw [BS.out, ← DD.out]; simp, kept_dn KK.out _⟩
        ·have d1 : (x.tr == y.tr) = false := by simp [c1]
         rw [decide_eq_false (fun e => c1 (key_iff.1 e).1)] at BS
         clear c1
         go_wp2
         go_quiet (fail)
         go_wp2
         go_roundg (n - k - 1)
         case measure => have := JK.out; omega
         case rel => exact ⟨k + 1, by have := JK.out; omega, by go_num, by rw [BS.out, ← DD.out]; simp, kept_dn KK.out _⟩
       ·have k1 : ¬ (k : Int) < (n : Int) := by omega
        have ek : O.take k = O := List.take_of_length_le (by rw [LN.out]; omega)
        have K6 := Lib.hid (keptFF K5.out KK.out)
        have O6 := Lib.hid (own_kept O5.out KK.out (fun _ _ f => f))
        have ST := Lib.hid (show okR now A O y = d by
         rw [← DD.out, ek, ← CC.out, ← BB.out]; rfl)
        obtain ⟨q0, q1, q2, q3, q4, q5, q6, q7⟩ := YW.out
        replace q0 := K6.out.cell q0 (fun f => f)
        replace q1 := K6.out.cell q1 (fun f => f)
        replace q2 := K6.out.cell q2 (fun f => f)
        replace q3 := K6.out.cell q3 (fun f => f)
        replace q4 := K6.out.cell q4 (fun f => f)
        replace q5 := K6.out.cell q5 (fun f => f)
        replace q6 := K6.out.cell q6 (fun f => f)
        replace q7 := K6.out.cell q7 (fun f => f)
        have TS := Lib.hid (show takeR now A (B.drop (i + 1)) (if d = true then O ++ [y] else O) = TR by
         have := TI.out
         rw [← drop_step HY.out, takeR, ST.out] at this
         exact this)
        clear ek
        cases d with
        | false =>
         go_wp2
         go_roundg (nb - i - 1)
         case measure => have := JI.out; omega
         case rel => exact ⟨i + 1, O, by have := JI.out; omega, by rw [LN.out]; omega, by go_num, by rw [LN.out]; exact O6.out, TS.out, K6.out⟩
        | true =>
         have sz := K6.out.size
         obtain ⟨w6, hw6⟩ : ∃ W, wr = W := ⟨_, rfl⟩
         rw [hw6] at K6 O6 sz q0 q1 q2 q3 q4 q5 q6 q7 ⊢
         clear hw6
         go_wp2_with (at_builtin; refine stopH ?_)
         intro _
         refine wpList_append_own _ rfl _ _ 27 rfl w.heap.size 37 i0 _ 8 88 Try.underlying27 hi0 hz0 hz1 hz2 rfl (by decide) _ n _ rfl (own_kept O6.out ((Kept.refl (fun _ => False) w6).alloc _) (fun _ _ f => f)) ⟨w6.heap.size, 0, none⟩ 1 1 y.cells rfl rfl (World.news_of_block (heap_alloc_new w6 _)) ?qa ?qb ?qc ?qd ?_
         case qa => intro u hu; simp [Spn.cells] at hu; rcases hu with rfl | rfl | rfl | rfl | rfl | rfl | rfl | rfl <;> rfl
         case qb => unfold maxLen; omega
         case qc => omega
         case qd => simp; omega
         intro v8 w8 own8 hg8 hn8
         have K8 := Lib.hid (((K6.out.alloc (Obj.cells #[.int .i64 y.tr, .int .i64 y.id, .int .i64 y.pa, .string y.se, .string y.ho, .int .i64 y.st, .int .i64 y.du, .string y.no] 37)) : Kept (fun _ => False) w _).grown hg8 (fun q hq hlt => by have h1 := own_from O6.out hq; omega))
         have O8 := Lib.hid own8
         obtain ⟨ao8, cap8, rfl⟩ := own_slice own8
         clear own8 hg8 hn8 q0 q1 q2 q3 q4 q5 q6 q7
         go_wp2
         go_roundg (nb - i - 1)
         case measure => have := JI.out; omega
         case rel =>
          have e2 : (O ++ [y]).length = n + 1 := by rw [List.length_append, LN.out]; rfl
          have e3 : cellsS (O ++ [y]) = cellsS O ++ y.cells := by rw [cellsS_append]; simp [cellsS]
          exact ⟨i + 1, O ++ [y], by have := JI.out; omega, by rw [e2]; omega, by go_num, by rw [e2, e3]; exact O8.out, TS.out, K8.out⟩
  ·have i1 : ¬ (i : Int) < (nb : Int) := by omega
   have ei : B.drop i = [] := List.drop_eq_nil_of_le (by rw [NB.out]; omega)
   have e := TI.out
   rw [ei] at e
   have e2 : O = TR := e
   go_wp2
   go_ret
   exact ⟨_, rfl, by rw [← e2]; exact OO.out, KR.out⟩
end Go.Proofs.Ytibakmchgppndaa
/- The document's model: New, Take. -/
namespace Go.Proofs.Ytibakmchgppndaa
open Go.RowKit

/-- The document's model in block mp: its list. -/
structure RefAt (w : World) (mp : Nat) (L : List Spn) : Prop where
 here : ∃ v, w.cell? ⟨mp, 0, none⟩ = some v ∧ w.ownsRow (mp + 1) 37 8 v L.length (cellsS L)
 soft : w.frozen? ⟨mp, 0, none⟩ = false
theorem RefAt.keptF {w w' : World} {mp : Nat} {L : List Spn} (h : RefAt w mp L) (hK : Kept (fun _ => False) w w') : RefAt w' mp L := by
 obtain ⟨⟨v, h1, h2⟩, h3⟩ := h
 exact ⟨⟨v, hK.cell h1 (fun f => f), own_kept h2 hK (fun _ _ f => f)⟩, hK.frozen h3 (World.block_lt_of_cell? _ _ h1) (fun f => f)⟩
theorem RefAt.kept {S : Nat → Prop} {w w' : World} {mp : Nat} {L : List Spn} (h : RefAt w mp L) (hK : Kept S w w') (hS : ∀ k, S k → k < mp) : RefAt w' mp L := by
 obtain ⟨⟨v, h1, h2⟩, h3⟩ := h
 exact ⟨⟨v, hK.cell h1 (fun e => by have := hS _ e; simp only at this; omega), own_kept h2 hK (fun q hq e => by have h4 := hS _ e; have h5 := own_from h2 hq; omega)⟩, hK.frozen h3 (World.block_lt_of_cell? _ _ h1) (fun e => by have := hS _ e; simp only at this; omega)⟩
theorem rnew_all (w : World) : Calls Try.prog 13 #[] w fun e w' => e = .returned (.pointer (some ⟨w.heap.size, 0, none⟩)) ∧ Kept (fun _ => False) w w' ∧ RefAt w' w.heap.size [] := by
 go_enter Try.func13, Try.ntmps13
 go_wp2
 go_ret
 exact ⟨rfl, (Kept.refl _ w).alloc _, ⟨_, by simp, World.ownsRow_nil _ _ _ _⟩, by simp⟩
theorem Src.of_own {w : World} {base : Nat} {v : Value} {n : Nat} {xs : List Value} (h : w.ownsRow base 37 8 v n xs) : Src w v n xs := by
 rcases row_form h with ⟨rfl, h0⟩ | ⟨g, c, rfl, _, _, _, hc⟩
 ·refine ⟨none, 0, by rw [h0], .inl ⟨rfl, h0, ?_⟩⟩
  have := h.1
  rw [h0] at this
  exact List.eq_nil_of_length_eq_zero (by omega)
 ·exact ⟨_, c, rfl, .inr ⟨_, rfl, fun j u hu => by rw [add_mid, Nat.zero_add]; exact hc j u hu⟩⟩
theorem ReadsS.of_row {w : World} {base : Nat} {v : Value} {L : List Spn} (h : w.ownsRow base 37 8 v L.length (cellsS L)) : ReadsS w v L := by
 rcases row_form h with ⟨rfl, h0⟩ | ⟨g, c, rfl, _, _, _, hc⟩
 ·exact ⟨none, 0, by rw [h0], .inl (List.eq_nil_of_length_eq_zero h0)⟩
 ·exact ⟨_, c, rfl, .inr ⟨g, 0, rfl, fun j u hu => by rw [Nat.zero_add]; exact hc j u hu⟩⟩
theorem chk_fit {m : Spn} (h : chkB m = true) : Fits m := by
 unfold chkB nameB at h
 simp at h
 unfold Fits
 omega
theorem kept_fresh {S : Nat → Prop} {w a c : World} (h : Kept (fun _ => False) w a) (k : Kept S a c) (hb : ∀ q, S q → w.heap.size ≤ q) : Kept (fun _ => False) w c :=
 h.trans k (fun _ _ f => f) (fun q hq e => absurd hq (Nat.not_lt.2 (hb q e)))
theorem putR_mem {s x : Spn} {L : List Spn} (h : x ∈ putR s L) : x = s ∨ x ∈ L := by
 unfold putR at h
 rcases List.mem_append.1 h with h | h
 ·rcases List.mem_append.1 h with h | h
  ·exact .inr (List.mem_of_mem_take h)
  ·simp at h; exact .inl h
 ·exact .inr (List.mem_of_mem_drop h)
theorem foldR_mem_aux : ∀ (L a : List Spn) {x : Spn}, x ∈ L.foldl (fun a s => putR s a) a → x ∈ a ∨ x ∈ L
 | [], a, x, h => .inl h
 | y :: t, a, x, h => by
  rcases foldR_mem_aux t (putR y a) h with h | h
  ·rcases putR_mem h with rfl | h
   ·exact .inr List.mem_cons_self
   ·exact .inl h
  ·exact .inr (List.mem_cons_of_mem _ h)
theorem foldR_mem {L : List Spn} {x : Spn} (h : x ∈ foldR L) : x ∈ L := by
 rcases foldR_mem_aux L [] h with h | h
 ·cases h
 ·exact h
noncomputable def rowR (now : Int) (L : List Spn) : List Spn := foldR (liveF now L)
set_option maxHeartbeats 8000000 in
set_option maxRecDepth 100000 in
theorem rmtake_all {w : World} {mp : Nat} {vl : Value} {L l : List Spn} (now : Int) (h1 : 0 ≤ now) (h2 : now ≤ 4294967296) (hr : RefAt w mp L) (hv : ReadsS w vl l) (hm : ∀ m ∈ L, chkB m = true) (hf : ∀ m ∈ l, Fits m) (hL : L.length ≤ 1000000) (hl : l.length ≤ 1000000) :
  Calls Try.prog 14 #[.pointer (some ⟨mp, 0, none⟩), vl, .int .i64 now] w fun e w' => e = .returned (.int .i64 ((takeR now (rowR now L) l []).length : Nat)) ∧ RefAt w' mp (L ++ takeR now (rowR now L) l []) ∧ Kept (fun k => mp ≤ k) w w' := by
 obtain ⟨i0, hi0, hz0, hz1, hz2⟩ := info_parts inf37
 obtain ⟨⟨v, hc, ho⟩, hfr⟩ := hr
 have HR := Lib.hid (r_all now h1 h2 hc ho hm hL)
 have HO := Lib.hid ho; have HC := Lib.hid hc; have HF := Lib.hid hfr
 have HV := Lib.hid hv; have FL := Lib.hid hf; have HM := Lib.hid hm
 have RL := Lib.hid (show (rowR now L).length ≤ 1000000 by have a1 := foldR_len (liveF now L); have a2 := live_len now L; unfold rowR; omega)
 have RM := Lib.hid (show ∀ m ∈ rowR now L, chkB m = true from fun m hm' => hm m (List.mem_filter.1 (foldR_mem hm')).1)
 obtain ⟨la, cap, rfl⟩ := own_slice ho
 obtain ⟨n, hn⟩ : ∃ n, L.length = n := ⟨_, rfl⟩
 have LN := Lib.hid hn
 rw [hn] at HO HC hL
 have MPL := Lib.hid (World.block_lt_of_cell? _ _ hc)
 clear hc ho hm hf hv hfr hn
 unfold rowR at RL RM
 unfold rowR
 obtain ⟨RR, hRR⟩ : ∃ R, foldR (liveF now L) = R := ⟨_, rfl⟩
 rw [hRR] at HR RL RM ⊢
 clear hRR
 obtain ⟨TR, hTR⟩ : ∃ T, takeR now RR l [] = T := ⟨_, rfl⟩
 have TL := Lib.hid (show TR.length ≤ 1000000 by rw [← hTR]; have := takeR_len now RR l []; simp at this; omega)
 rw [hTR]
 have TE := Lib.hid hTR
 clear hTR
 go_enter Try.func14, Try.ntmps14
 go_wp2_with fail
 refine HR.out.mono ?_
 rintro e w1 ⟨v1, rfl, o1, k1⟩
 have K1 := Lib.hid k1
 have S1 := Lib.hid (ReadsS.of_row o1)
 have T1 := Lib.hid (rtake_all now h1 h2 S1.out (HV.out.keptF k1) RM.out FL.out RL.out hl)
 rw [TE.out] at T1
 clear o1 k1
 go_wp2_with fail
 refine T1.out.mono ?_
 rintro e w2 ⟨v2, rfl, o2, k2⟩
 have K2 := Lib.hid (keptFF K1.out k2)
 have S2 := Lib.hid (Src.of_own o2)
 have HC2 := K2.out.cell HC.out (fun f => f)
 have HO2 := Lib.hid (own_kept HO.out K2.out (fun _ _ f => f))
 have FZ2 := K2.out.frozen HF.out MPL.out (fun f => f)
 obtain ⟨a2, c2, rfl⟩ := own_slice o2
 obtain ⟨m, hm⟩ : ∃ m, TR.length = m := ⟨_, rfl⟩
 have MN := Lib.hid hm
 have TLm := TL.out
 rw [hm] at S2 TLm ⊢
 clear o2 k2 hm
 go_wp2_with (at_builtin; refine stopH ?_)
 intro _
 refine wpList_appG rfl _ _ 27 rfl (mp + 1) 37 i0 _ 8 88 Try.underlying27 hi0 hz0 hz1 hz2 rfl (by decide) _ n _ rfl HO2.out m (cellsS TR) _ rfl S2.out (by rw [cellsS_length, MN.out]) (cellsS_one _) (by unfold maxLen; omega) (by omega) (by have h1 := MPL.out; have h2 := K2.out.size; omega) ?_
 intro ao3 cap3 w3 o3 k3 hat3
 have nmp : ¬ (Value.slice la n cap).ownBlock = some mp := fun e => by have := own_from HO2.out e; omega
 have hc3 := k3.cell HC2 nmp
 have fz3 := k3.frozen FZ2 (World.block_lt_of_cell? _ _ HC2) nmp
 have K3 := Lib.hid (K2.out.trans k3 (fun _ _ f => f.elim) (fun q _ e => by have := own_from HO2.out e; omega) : Kept (fun k => mp ≤ k) w w3)
 have O3 := Lib.hid o3
 clear HC2 FZ2 o3 k3 hat3 nmp
 go_wp2
 go_ret
 have KS : Kept (fun k => k = mp) w3 (w3.setCell ⟨mp, 0, none⟩ (.slice ao3 (n + m) cap3)) := (Kept.refl (fun k => k = mp) w3).setCell (fun _ => rfl) _
 have LE : (L ++ TR).length = n + m := by rw [List.length_append, LN.out, MN.out]
 have OE := own_kept O3.out KS (fun q hq e => by have := own_from O3.out hq; omega)
 refine ⟨by rw [MN.out]; rfl, ⟨⟨.slice ao3 (n + m) cap3, World.cell?_setCell_same _ _ _ hc3, by rw [LE, cellsS_append]; exact OE⟩, by simpa using fz3⟩, K3.out.setCell (fun _ => Nat.le_refl _) _⟩
end Go.Proofs.Ytibakmchgppndaa
