/- (*Model).Spans of any model: the spans that have not expired, sorted. -/
import Derived.Test.YtibakmchgppndaaSortB
namespace Go.Proofs.Ytibakmchgppndaa
open Go.RowKit Go.MapKept Go.Instr Go.ChangeMaps

/-- The spans whose numbers are not among these. -/
def leftS (seen : Array Nat) : Nat → List Spn → List Spn
  | _, [] => []
  | n, m :: t => if seen.contains n = true then leftS seen (n + 1) t else m :: leftS seen (n + 1) t
theorem left_push_old (seen : Array Nat) (b : Nat) : ∀ (M : List Spn) (n : Nat), b < n → leftS (seen.push b) n M = leftS seen n M
  | [], n, _ => rfl
  | m :: t, n, h => by
    have e : (seen.push b).contains n = seen.contains n := by
      rw [contains_push]; have : (n == b) = false := by simp; omega
      rw [this, Bool.or_false]
    rw [leftS, leftS, e, left_push_old seen b t (n + 1) (by omega)]
theorem left_perm (seen : Array Nat) : ∀ (M : List Spn) (n i : Nat) (m : Spn), M[i]? = some m → seen.contains (n + i) = false → (m :: leftS (seen.push (n + i)) n M).Perm (leftS seen n M)
  | [], n, i, m, h, _ => by simp at h
  | a :: t, n, 0, m, h, hs => by
    simp at h; subst h
    have e1 : seen.contains n = false := hs
    have e2 : (seen.push n).contains n = true := by rw [contains_push]; simp
    rw [leftS, leftS, Nat.add_zero, e1, e2, if_pos rfl, if_neg (by simp), left_push_old seen n t (n + 1) (by omega)]
  | a :: t, n, i + 1, m, h, hs => by
    have hn : n + (i + 1) = (n + 1) + i := by omega
    rw [hn] at hs ⊢
    have ih := left_perm seen t (n + 1) i m (by simpa using h) hs
    have e : (seen.push (n + 1 + i)).contains n = seen.contains n := by
      rw [contains_push]; have : (n == n + 1 + i) = false := by simp; omega
      rw [this, Bool.or_false]
    rw [leftS, leftS, e]
    cases hc : seen.contains n with
    | true => rw [if_pos rfl, if_pos rfl]; exact ih
    | false =>
      rw [if_neg (by simp), if_neg (by simp)]
      exact (List.Perm.swap a m _).trans (ih.cons a)
theorem left_all (seen : Array Nat) : ∀ (M : List Spn) (n : Nat), (∀ i, i < M.length → seen.contains (n + i) = true) → leftS seen n M = []
  | [], n, _ => rfl
  | m :: t, n, h => by
    have h0 := h 0 (by simp)
    rw [Nat.add_zero] at h0
    rw [leftS, if_pos h0]
    exact left_all seen t (n + 1) (fun i hi => by have := h (i + 1) (by simp; omega); rwa [show n + (i + 1) = n + 1 + i by omega] at this)
theorem left_none : ∀ (M : List Spn) (n : Nat), leftS #[] n M = M
  | [], n => rfl
  | m :: t, n => by rw [leftS, if_neg (by simp), left_none t (n + 1)]
abbrev entM (M : List Spn) : Array MapEntry := (entsL 0 (kvM M)).toArray
theorem entM_at (M : List Spn) (i : Nat) : (entM M)[i]? = (M[i]?).map (fun m => ⟨keyV (keyOf m), aggS m, i⟩) := by
  simp [entM, entsL_at, kvM]
  cases M[i]? <;> simp
theorem mem_entM {M : List Spn} {e : MapEntry} (h : e ∈ (entM M).toList) : ∃ i m, M[i]? = some m ∧ e = ⟨keyV (keyOf m), aggS m, i⟩ := by
  obtain ⟨i, hi⟩ := List.mem_iff_getElem?.1 h
  have : (entM M)[i]? = some e := by simpa using hi
  rw [entM_at] at this
  cases hm : M[i]? with
  | none => simp [hm] at this
  | some m => simp [hm] at this; exact ⟨i, m, hm, this.symm⟩
theorem born_list : ∀ (L : List KV) (n : Nat), (entsL n L).map (·.born) = List.range' n L.length
  | [], n => rfl
  | p :: t, n => by simp [entsL, born_list t (n + 1), List.range'_succ]
theorem born_once (M : List Spn) : ((entM M).toList.map (·.born)).Nodup := by
  simp [born_list]; exact List.nodup_range'
theorem done_left {M : List Spn} {seen : Array Nat} (h : (leftOf (entM M) seen).size = 0) : leftS seen 0 M = [] := by
  refine left_all seen M 0 (fun i hi => ?_)
  have hm : M[i]? = some M[i] := List.getElem?_eq_getElem hi
  have he : (entM M)[i]? = some ⟨keyV (keyOf M[i]), aggS M[i], i⟩ := by rw [entM_at, hm]; rfl
  have := all_seen (entM M) seen h _ (List.mem_iff_getElem?.2 ⟨i, by simpa using he⟩)
  simpa using this
def liveF (now : Int) (L : List Spn) : List Spn := L.filter (fun m => !lateB m.st now)
theorem live_late {now : Int} {V : List Spn} {m : Spn} (h : lateB m.st now = true) : liveF now (V ++ [m]) = liveF now V := by
  unfold liveF; simp [h]
theorem live_live {now : Int} {V : List Spn} {m : Spn} (h : lateB m.st now = false) : liveF now (V ++ [m]) = liveF now V ++ [m] := by
  unfold liveF; simp [h]
theorem own_kept {S : Nat → Prop} {w w' : World} {base e size : Nat} {v : Value} {n : Nat} {xs : List Value} (h : w.ownsRow base e size v n xs) (hK : Kept S w w') (hv : ∀ b, v.ownBlock = some b → ¬ S b) : w'.ownsRow base e size v n xs := by
  obtain ⟨h1, h2⟩ := h
  refine ⟨h1, ?_⟩
  rcases h2 with h2 | ⟨g, cap, cur, rfl, hb, hg, rest⟩
  · exact .inl h2
  · exact .inr ⟨g, cap, cur, rfl, hb, (hK.block g (Array.getElem?_eq_some_iff.1 hg).1 (hv g rfl)).trans hg, rest⟩
theorem own_from {w : World} {base e size : Nat} {v : Value} {n : Nat} {xs : List Value} (h : w.ownsRow base e size v n xs) {q : Nat} (hq : v.ownBlock = some q) : base ≤ q := by
  rcases h.2 with ⟨rfl, _⟩ | ⟨g, cap, cur, rfl, hb, _⟩
  · cases hq
  · cases hq; exact hb
theorem own_slice {w : World} {base e size : Nat} {v : Value} {n : Nat} {xs : List Value} (h : w.ownsRow base e size v n xs) : ∃ a c, v = .slice a n c := by
  rcases row_form h with ⟨h1, h2⟩ | ⟨g, c, h1, _⟩
  · exact ⟨none, 0, by rw [h1, h2]⟩
  · exact ⟨_, _, h1⟩

set_option maxHeartbeats 8000000 in
set_option maxRecDepth 100000 in
theorem spans_all {w : World} {p b : Nat} {M : List Spn} (now : Int) (h1 : 0 ≤ now) (h2 : now ≤ 4294967296) (h : ModelAt w p b M) (hM : M.length ≤ 1000000000) :
    Calls Try.prog 10 #[.pointer (some ⟨p, 0, none⟩), .int .i64 now] w fun e w' => Kept (fun _ => False) w w' ∧ ∃ v R, e = .returned v ∧ ReadsS w' v R ∧ R.Perm (liveF now M) ∧ SortedS R := by
  obtain ⟨i0, hi0, hz0, hz1, hz2⟩ := info_parts inf37
  have N := Lib.hid (none_not p b w h.cell)
  have hmap : w.heap[b]? = some (.map (entM M) M.length) := by
    have := h.map
    have hk : (kvM M).length = M.length := by simp [kvM]
    unfold MapIs at this
    rwa [hk] at this
  have R := run_range_map (P := Try.prog) w 68 74 37 b (entM M) M.length u68 hmap
  have hc := h.cell
  have HM := Lib.hid hmap
  have HL := Lib.hid h.map.lt
  have MAY := Lib.hid h.may
  have HS := Lib.hid hM
  obtain ⟨es, hes⟩ : ∃ es, entM M = es := ⟨_, rfl⟩
  have ES := Lib.hid hes
  rw [hes] at HM
  clear h hmap hM hes
  go_enter Try.func10, Try.ntmps10
  go_wp2_with (go_at_call 28; refine N.out.mono ?_; rintro e w4 ⟨rfl, rfl⟩)
  clear R hc
  go_loopg [5] (leftOf es #[]).size (fun gh s wr => ∃ (seen : Array Nat) (V : List Spn), gh = (leftOf es seen).size ∧ (∃ ao cap, s = .slice ao (liveF now V).length cap) ∧ wr.ownsRow (w.heap.size + 1) 37 8 s (liveF now V).length (cellsS (liveF now V)) ∧ (V ++ leftS seen 0 M).Perm M ∧ wr.heap[w.heap.size]? = some (.mapIter (some b) M.length seen M.length) ∧ Kept (fun _ => False) w wr)
  case atStart =>
    exact ⟨#[], [], rfl, ⟨none, 0, rfl⟩, World.ownsRow_nil _ _ _ _, by rw [left_none]; exact List.Perm.refl _, heap_alloc_new w _, (Kept.refl _ w).alloc _⟩
  case round =>
    obtain ⟨seen, V, hgk, ⟨ao, cap, rfl⟩, ho, hp, hr, kw⟩ := hrel
    have GK := Lib.hid hgk
    have OW := Lib.hid ho
    have PE := Lib.hid hp
    have hb := (kw.block b HL.out (fun f => f)).trans HM.out
    have KW := Lib.hid kw
    have hlen : (liveF now V).length ≤ 1000000000 := by
      have e1 := List.length_filter_le (fun m : Spn => !lateB m.st now) V
      have e2 := hp.length_eq
      rw [List.length_append] at e2
      have := HS.out
      unfold liveF; omega
    clear hgk ho hp
    have hold : ∀ x ∈ es.toList, x.born < M.length := fun x hx => by
      rw [← ES.out] at hx
      obtain ⟨i, m, hm, rfl⟩ := mem_entM hx
      exact (List.getElem?_eq_some_iff.1 hm).1
    rcases run_next_at (P := Try.prog) wr 0 w.heap.size b M.length M.length seen es M.length hr hb hold (Nat.le_refl _) with ⟨hl, n1⟩ | ⟨e, he, w1, hw1, n1⟩
    · have hnil : leftS seen 0 M = [] := done_left (by rw [ES.out]; exact hl)
      have SO := Lib.hid (sort_own OW.out (by omega))
      have PV := Lib.hid (show (liveF now V).Perm (liveF now M) from by
        have := PE.out
        rw [hnil, List.append_nil] at this
        exact this.filter _)
      clear hr hb hold hl hnil
      go_wp2_with fail
      refine SO.out.mono ?_
      rintro e w4 ⟨rfl, k4, d', pd, sd, rd⟩
      have K4 := Lib.hid (KW.out.trans k4 (fun _ _ f => f) (fun q hq hs => by have := own_from OW.out hs; omega) : Kept (fun _ => False) w w4)
      have F := Lib.hid (And.intro pd (And.intro sd rd))
      clear k4 pd sd rd
      go_wp2
      go_ret
      exact ⟨K4.out, _, d', rfl, F.out.2.2, F.out.1.trans PV.out, F.out.2.1⟩
    · obtain ⟨hes2, hun⟩ := mem_left he
      have HSH := Lib.hid (left_shrinks es seen e he)
      have hes3 := hes2
      rw [← ES.out] at hes3
      obtain ⟨i, m, hm, hem⟩ := mem_entM hes3
      have eb : e.born = i := by rw [hem]
      have ek : e.key = .agg #[.int .i64 m.tr, .int .i64 m.id] := by rw [hem]; rfl
      have ev : e.val = aggS m := by rw [hem]
      rw [eb] at hun HSH n1
      rw [ek, ev] at n1
      have PE2 := Lib.hid (show ((V ++ [m]) ++ leftS (seen.push i) 0 M).Perm M from by
        have := left_perm seen M 0 i m hm (by rw [Nat.zero_add]; exact hun)
        rw [Nat.zero_add] at this
        rw [List.append_assoc]
        exact (List.Perm.append_left V this).trans PE.out)
      have kr : Kept (fun _ => False) wr w1 := by rcases hw1 with rfl | rfl
                                                  · exact Kept.refl _ _
                                                  · exact (Kept.refl _ _).drew
      have hr1 : w1.heap[w.heap.size]? = some (.mapIter (some b) M.length seen M.length) := (kr.block _ (Array.getElem?_eq_some_iff.1 hr).1 (fun f => f)).trans hr
      obtain ⟨W2, hW2⟩ : ∃ W2, setBlock w1 w.heap.size (.mapIter (some b) M.length (seen.push i) M.length) = W2 := ⟨_, rfl⟩
      rw [hW2] at n1
      have k2 : Kept (fun k => k = w.heap.size) w1 W2 := by rw [← hW2]; exact kept_setBlock (S := fun k => k = _) (Kept.refl _ _) (fun _ => rfl) _
      have hr2 : W2.heap[w.heap.size]? = some (.mapIter (some b) M.length (seen.push i) M.length) := by rw [← hW2]; exact set_same _ (Array.getElem?_eq_some_iff.1 hr1).1
      have OW2 := Lib.hid (own_kept (own_kept OW.out kr (fun _ _ f => f)) k2 (fun q hq hs => by have := own_from OW.out hq; omega))
      have KW2 := Lib.hid ((KW.out.trans kr (fun _ _ f => f) (fun _ _ f => f)).trans k2 (fun _ _ f => f) (fun q hq hs => by omega) : Kept (fun _ => False) w W2)
      have hb2 := (KW2.out.block b HL.out (fun f => f)).trans HM.out
      have n2 := run_entry_at (P := Try.prog) W2 w.heap.size b M.length seen es M.length e (by rw [eb]; exact hr2) hb2 hes2 (by rw [← ES.out]; exact born_once M)
      rw [ek, ev] at n2
      unfold aggS at n1 n2
      have R2 := Lib.hid hr2
      have num := (chk_num (MAY.out m (List.mem_of_getElem? hm))).2.2.2.1
      have E := Lib.hid (expired_all m now num.1 num.2 h1 h2)
      obtain ⟨be, hbe⟩ : ∃ c, lateB m.st now = c := ⟨_, rfl⟩
      rw [hbe] at E
      have BE := Lib.hid hbe
      clear hw1 kr hr1 hW2 k2 hr2 hb2 hes2 hes3 hun hm hem eb ek ev hr hb hold num hbe he
      go_wp2_with fail
      refine (E.out _).mono ?_
      rintro e4 w4 ⟨rfl, k4⟩
      have KA := Lib.hid (((Kept.refl (fun _ => False) W2).alloc _).trans k4 (fun _ _ f => f) (fun _ _ f => f) : Kept (fun _ => False) W2 w4)
      have c4 : SpanAt w4 W2.heap.size m := (SpanAt.new (w := W2) (m := m)).keptF k4
      clear k4
      cases be with
      | true =>
        have K5 := Lib.hid (KW2.out.trans KA.out (fun _ _ f => f) (fun _ _ f => f) : Kept (fun _ => False) w w4)
        have R5 := Lib.hid ((KA.out.block _ (Array.getElem?_eq_some_iff.1 R2.out).1 (fun f => f)).trans R2.out)
        have O5 := Lib.hid (own_kept OW2.out KA.out (fun _ _ f => f))
        clear c4
        go_wp2
        go_roundg (leftOf es (seen.push i)).size
        case measure => rw [GK.out]; exact HSH.out
        case rel =>
          have e := live_late (V := V) BE.out
          exact ⟨seen.push i, V ++ [m], rfl, ⟨ao, cap, by rw [e]⟩, by rw [e]; exact O5.out, PE2.out, R5.out, K5.out⟩
      | false =>
        have q0 := c4 0 _ rfl
        have q1 := c4 1 _ rfl
        have q2 := c4 2 _ rfl
        have q3 := c4 3 _ rfl
        have q4 := c4 4 _ rfl
        have q5 := c4 5 _ rfl
        have q6 := c4 6 _ rfl
        have q7 := c4 7 _ rfl
        have O5 := Lib.hid (own_kept OW2.out KA.out (fun _ _ f => f))
        have s5 : w.heap.size + 1 ≤ w4.heap.size := by
          have e1 := (Array.getElem?_eq_some_iff.1 R2.out).1
          have := KA.out.size
          omega
        obtain ⟨n, hn⟩ : ∃ n, (liveF now V).length = n := ⟨_, rfl⟩
        have LN := Lib.hid hn
        rw [hn] at O5 hlen ⊢
        clear c4 hn
        go_wp2_with (at_builtin; refine wpList_append_own _ rfl _ _ 27 rfl (w.heap.size + 1) 37 i0 _ 8 88 Try.underlying27 hi0 hz0 hz1 hz2 rfl (by decide) _ _ _ rfl (own_kept O5.out ((Kept.refl (fun _ => False) w4).alloc _) (fun _ _ f => f)) ⟨w4.heap.size, 0, none⟩ 1 1 m.cells rfl rfl (World.news_of_block (heap_alloc_new w4 _)) ?qa ?qb ?qc ?qd ?_)
        case qa => intro u hu; simp [Spn.cells] at hu; rcases hu with rfl | rfl | rfl | rfl | rfl | rfl | rfl | rfl <;> rfl
        case qb => unfold maxLen; omega
        case qc => omega
        case qd => simp; omega
        intro v' w5 hown hgrow hnil
        have K6 := Lib.hid ((((KW2.out.trans KA.out (fun _ _ f => f) (fun _ _ f => f)).alloc (Obj.cells #[.int .i64 m.tr, .int .i64 m.id, .int .i64 m.pa, .string m.se, .string m.ho, .int .i64 m.st, .int .i64 m.du, .string m.no] 37)) : Kept (fun _ => False) w _).grown hgrow (fun k hk hlt => by have := own_from O5.out hk; omega))
        have R6 := Lib.hid (show w5.heap[w.heap.size]? = some (.mapIter (some b) M.length (seen.push i) M.length) from by
          have hl : w.heap.size < w4.heap.size := by omega
          rw [hgrow.block _ (by simp; omega) (fun hk => by have := own_from O5.out hk.symm; omega), ((Kept.refl (fun _ => False) w4).alloc _).block _ hl (fun f => f), KA.out.block _ (Array.getElem?_eq_some_iff.1 R2.out).1 (fun f => f)]
          exact R2.out)
        have O6 := Lib.hid hown
        obtain ⟨ao2, cap2, rfl⟩ := own_slice hown
        clear hown hgrow hnil q0 q1 q2 q3 q4 q5 q6 q7
        go_wp2
        go_roundg (leftOf es (seen.push i)).size
        case measure => rw [GK.out]; exact HSH.out
        case rel =>
          have e := live_live (V := V) BE.out
          have e2 : (liveF now V ++ [m]).length = n + 1 := by rw [List.length_append, LN.out]; rfl
          have e3 : cellsS (liveF now V ++ [m]) = cellsS (liveF now V) ++ m.cells := by rw [cellsS_append]; simp [cellsS]
          exact ⟨seen.push i, V ++ [m], rfl, ⟨ao2, cap2, by rw [e, e2]⟩, by rw [e, e2, e3]; exact O6.out, PE2.out, R6.out, K6.out⟩
end Go.Proofs.Ytibakmchgppndaa
