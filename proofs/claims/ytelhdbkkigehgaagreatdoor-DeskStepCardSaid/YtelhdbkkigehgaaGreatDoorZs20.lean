/- A part of the proof. -/
import Derived.Test.YtelhdbkkigehgaaGreatDoorZs19
import Derived.Test.YtelhdbkkigehgaaGreatDoorZs3

/- Printed by port_model.py out of the Model seat. -/
namespace Go.Proofs.YtelhdbkkigehgaaGreatDoor
open Go.RowKit Go.MapKept Go.Instr Go.ChangeMaps

/-- The spans whose numbers are not among these. -/
def leftS (seen : Array Nat) : Nat → List Spn → List Spn
  | _, [] => []
  | n, m :: t => if seen.contains n = true then leftS seen (n + 1) t else m :: leftS seen (n + 1) t
theorem left_push_old (seen : Array Nat) (b : Nat) : ∀ (M : List Spn) (n : Nat), b < n → leftS (seen.push b) n M = leftS seen n M
  | [], n, _ => rfl
  | m :: t, n, h => by
    have e : (seen.push b).contains n = seen.contains n := by
      rw [contains_push]; have : (n == b) = false := by simp; omega
      rw [this, Bool.or_false]
    rw [leftS, leftS, e, left_push_old seen b t (n + 1) (by omega)]
theorem left_perm (seen : Array Nat) : ∀ (M : List Spn) (n i : Nat) (m : Spn), M[i]? = some m → seen.contains (n + i) = false → (m :: leftS (seen.push (n + i)) n M).Perm (leftS seen n M)
  | [], n, i, m, h, _ => by simp at h
  | a :: t, n, 0, m, h, hs => by
    simp at h; subst h
    have e1 : seen.contains n = false := hs
    have e2 : (seen.push n).contains n = true := by rw [contains_push]; simp
    rw [leftS, leftS, Nat.add_zero, e1, e2, if_pos rfl, if_neg (by simp), left_push_old seen n t (n + 1) (by omega)]
  | a :: t, n, i + 1, m, h, hs => by
    have hn : n + (i + 1) = (n + 1) + i := by omega
    rw [hn] at hs ⊢
    have ih := left_perm seen t (n + 1) i m (by simpa using h) hs
    have e : (seen.push (n + 1 + i)).contains n = seen.contains n := by
      rw [contains_push]; have : (n == n + 1 + i) = false := by simp; omega
      rw [this, Bool.or_false]
    rw [leftS, leftS, e]
    cases hc : seen.contains n with
    | true => rw [if_pos rfl, if_pos rfl]; exact ih
    | false =>
      rw [if_neg (by simp), if_neg (by simp)]
      exact (List.Perm.swap a m _).trans (ih.cons a)
theorem left_all (seen : Array Nat) : ∀ (M : List Spn) (n : Nat), (∀ i, i < M.length → seen.contains (n + i) = true) → leftS seen n M = []
  | [], n, _ => rfl
  | m :: t, n, h => by
    have h0 := h 0 (by simp)
    rw [Nat.add_zero] at h0
    rw [leftS, if_pos h0]
    exact left_all seen t (n + 1) (fun i hi => by have := h (i + 1) (by simp; omega); rwa [show n + (i + 1) = n + 1 + i by omega] at this)
theorem left_none : ∀ (M : List Spn) (n : Nat), leftS #[] n M = M
  | [], n => rfl
  | m :: t, n => by rw [leftS, if_neg (by simp), left_none t (n + 1)]
abbrev entM (M : List Spn) : Array MapEntry := (entsL 0 (kvM M)).toArray
theorem entM_at (M : List Spn) (i : Nat) : (entM M)[i]? = (M[i]?).map (fun m => ⟨keyV (keyOf m), aggS m, i⟩) := by
  simp [entM, entsL_at, kvM]
  cases M[i]? <;> simp
theorem mem_entM {M : List Spn} {e : MapEntry} (h : e ∈ (entM M).toList) : ∃ i m, M[i]? = some m ∧ e = ⟨keyV (keyOf m), aggS m, i⟩ := by
  obtain ⟨i, hi⟩ := List.mem_iff_getElem?.1 h
  have : (entM M)[i]? = some e := by simpa using hi
  rw [entM_at] at this
  cases hm : M[i]? with
  | none => simp [hm] at this
  | some m => simp [hm] at this; exact ⟨i, m, hm, this.symm⟩
theorem born_list : ∀ (L : List KV) (n : Nat), (entsL n L).map (·.born) = List.range' n L.length
  | [], n => rfl
  | p :: t, n => by simp [entsL, born_list t (n + 1), List.range'_succ]
theorem born_once (M : List Spn) : ((entM M).toList.map (·.born)).Nodup := by
  simp [born_list]; exact List.nodup_range'
theorem done_left {M : List Spn} {seen : Array Nat} (h : (leftOf (entM M) seen).size = 0) : leftS seen 0 M = [] := by
  refine left_all seen M 0 (fun i hi => ?_)
  have hm : M[i]? = some M[i] := List.getElem?_eq_getElem hi
  have he : (entM M)[i]? = some ⟨keyV (keyOf M[i]), aggS M[i], i⟩ := by rw [entM_at, hm]; rfl
  have := all_seen (entM M) seen h _ (List.mem_iff_getElem?.2 ⟨i, by simpa using he⟩)
  simpa using this
def liveF (now : Int) (L : List Spn) : List Spn := L.filter (fun m => !lateB m.st now)
theorem live_late {now : Int} {V : List Spn} {m : Spn} (h : lateB m.st now = true) : liveF now (V ++ [m]) = liveF now V := by
  unfold liveF; simp [h]
theorem live_live {now : Int} {V : List Spn} {m : Spn} (h : lateB m.st now = false) : liveF now (V ++ [m]) = liveF now V ++ [m] := by
  unfold liveF; simp [h]
theorem own_kept {S : Nat → Prop} {w w' : World} {base e size : Nat} {v : Value} {n : Nat} {xs : List Value} (h : w.ownsRow base e size v n xs) (hK : Kept S w w') (hv : ∀ b, v.ownBlock = some b → ¬ S b) : w'.ownsRow base e size v n xs := by
  obtain ⟨h1, h2⟩ := h
  refine ⟨h1, ?_⟩
  rcases h2 with h2 | ⟨g, cap, cur, rfl, hb, hg, rest⟩
  · exact .inl h2
  · exact .inr ⟨g, cap, cur, rfl, hb, (hK.block g (Array.getElem?_eq_some_iff.1 hg).1 (hv g rfl)).trans hg, rest⟩
theorem own_from {w : World} {base e size : Nat} {v : Value} {n : Nat} {xs : List Value} (h : w.ownsRow base e size v n xs) {q : Nat} (hq : v.ownBlock = some q) : base ≤ q := by
  rcases h.2 with ⟨rfl, _⟩ | ⟨g, cap, cur, rfl, hb, _⟩
  · cases hq
  · cases hq; exact hb
theorem own_slice {w : World} {base e size : Nat} {v : Value} {n : Nat} {xs : List Value} (h : w.ownsRow base e size v n xs) : ∃ a c, v = .slice a n c := by
  rcases row_form h with ⟨h1, h2⟩ | ⟨g, c, h1, _⟩
  · exact ⟨none, 0, by rw [h1, h2]⟩
  · exact ⟨_, _, h1⟩

set_option maxHeartbeats 8000000 in
set_option maxRecDepth 100000 in
theorem spans_all {w : World} {p po b : Nat} {M : List Spn} (now : Int) (h1 : 0 ≤ now) (h2 : now ≤ 4294967296) (h : ModelAt w p po b M) (hM : M.length ≤ 1000000000) :
    Calls Tryz.prog 226 #[.pointer (some ⟨p, po, none⟩), .int .i64 now] w fun e w' => Kept (fun _ => False) w w' ∧ ∃ v R, e = .returned v ∧ w'.ownsRow (w.heap.size + 1) 35 8 v R.length (cellsS R) ∧ R.Perm (liveF now M) ∧ SortedS R := by
  obtain ⟨i0, hi0, hz0, hz1, hz2⟩ := info_parts inf37
  have N := Lib.hid (none_not p po b w h.cell)
  have hmap : w.heap[b]? = some (.map (entM M) M.length) := by
    have := h.map
    have hk : (kvM M).length = M.length := by simp [kvM]
    unfold MapIs at this
    rwa [hk] at this
  have R := run_range_map (P := Tryz.prog) w 436 440 35 b (entM M) M.length u68 hmap
  have hc := h.cell
  have HM := Lib.hid hmap
  have HL := Lib.hid h.map.lt
  have MAY := Lib.hid h.may
  have HS := Lib.hid hM
  obtain ⟨es, hes⟩ : ∃ es, entM M = es := ⟨_, rfl⟩
  have ES := Lib.hid hes
  rw [hes] at HM
  clear h hmap hM hes
  go_enter Tryz.func226, Tryz.ntmps226
  go_wp2_with (go_at_call 337; refine N.out.mono ?_; rintro e w4 ⟨rfl, rfl⟩)
  clear R hc
  go_loopg [5] (leftOf es #[]).size (fun gh s wr => ∃ (seen : Array Nat) (V : List Spn), gh = (leftOf es seen).size ∧ (∃ ao cap, s = .slice ao (liveF now V).length cap) ∧ wr.ownsRow (w.heap.size + 1) 35 8 s (liveF now V).length (cellsS (liveF now V)) ∧ (V ++ leftS seen 0 M).Perm M ∧ wr.heap[w.heap.size]? = some (.mapIter (some b) M.length seen M.length) ∧ Kept (fun _ => False) w wr)
  case atStart =>
    exact ⟨#[], [], rfl, ⟨none, 0, rfl⟩, World.ownsRow_nil _ _ _ _, by rw [left_none]; exact List.Perm.refl _, heap_alloc_new w _, (Kept.refl _ w).alloc _⟩
  case round =>
    obtain ⟨seen, V, hgk, ⟨ao, cap, rfl⟩, ho, hp, hr, kw⟩ := hrel
    have GK := Lib.hid hgk
    have OW := Lib.hid ho
    have PE := Lib.hid hp
    have hb := (kw.block b HL.out (fun f => f)).trans HM.out
    have KW := Lib.hid kw
    have hlen : (liveF now V).length ≤ 1000000000 := by
      have e1 := List.length_filter_le (fun m : Spn => !lateB m.st now) V
      have e2 := hp.length_eq
      rw [List.length_append] at e2
      have := HS.out
      unfold liveF; omega
    clear hgk ho hp
    have hold : ∀ x ∈ es.toList, x.born < M.length := fun x hx => by
      rw [← ES.out] at hx
      obtain ⟨i, m, hm, rfl⟩ := mem_entM hx
      exact (List.getElem?_eq_some_iff.1 hm).1
    rcases run_next_at (P := Tryz.prog) wr 0 w.heap.size b M.length M.length seen es M.length hr hb hold (Nat.le_refl _) with ⟨hl, n1⟩ | ⟨e, he, w1, hw1, n1⟩
    · have hnil : leftS seen 0 M = [] := done_left (by rw [ES.out]; exact hl)
      have SO := Lib.hid (sort_own OW.out (by omega))
      have PV := Lib.hid (show (liveF now V).Perm (liveF now M) from by
        have := PE.out
        rw [hnil, List.append_nil] at this
        exact this.filter _)
      clear hr hb hold hl hnil
      go_wp2_with fail
      refine SO.out.mono ?_
      rintro e w4 ⟨rfl, k4, d', pd, sd, rd⟩
      have K4 := Lib.hid (KW.out.trans k4 (fun _ _ f => f) (fun q hq hs => by have := own_from OW.out hs; omega) : Kept (fun _ => False) w w4)
      have F := Lib.hid (And.intro pd (And.intro sd rd))
      clear k4 pd sd rd
      go_wp2
      go_ret
      exact ⟨K4.out, _, d', rfl, F.out.2.2, F.out.1.trans PV.out, F.out.2.1⟩
    · obtain ⟨hes2, hun⟩ := mem_left he
      have HSH := Lib.hid (left_shrinks es seen e he)
      have hes3 := hes2
      rw [← ES.out] at hes3
      obtain ⟨i, m, hm, hem⟩ := mem_entM hes3
      have eb : e.born = i := by rw [hem]
      have ek : e.key = .agg #[.int .i64 m.tr, .int .i64 m.id] := by rw [hem]; rfl
      have ev : e.val = aggS m := by rw [hem]
      rw [eb] at hun HSH n1
      rw [ek, ev] at n1
      have PE2 := Lib.hid (show ((V ++ [m]) ++ leftS (seen.push i) 0 M).Perm M from by
        have := left_perm seen M 0 i m hm (by rw [Nat.zero_add]; exact hun)
        rw [Nat.zero_add] at this
        rw [List.append_assoc]
        exact (List.Perm.append_left V this).trans PE.out)
      have kr : Kept (fun _ => False) wr w1 := by rcases hw1 with rfl | rfl
                                                  · exact Kept.refl _ _
                                                  · exact (Kept.refl _ _).drew
      have hr1 : w1.heap[w.heap.size]? = some (.mapIter (some b) M.length seen M.length) := (kr.block _ (Array.getElem?_eq_some_iff.1 hr).1 (fun f => f)).trans hr
      obtain ⟨W2, hW2⟩ : ∃ W2, setBlock w1 w.heap.size (.mapIter (some b) M.length (seen.push i) M.length) = W2 := ⟨_, rfl⟩
      rw [hW2] at n1
      have k2 : Kept (fun k => k = w.heap.size) w1 W2 := by rw [← hW2]; exact kept_setBlock (S := fun k => k = _) (Kept.refl _ _) (fun _ => rfl) _
      have hr2 : W2.heap[w.heap.size]? = some (.mapIter (some b) M.length (seen.push i) M.length) := by rw [← hW2]; exact set_same _ (Array.getElem?_eq_some_iff.1 hr1).1
      have OW2 := Lib.hid (own_kept (own_kept OW.out kr (fun _ _ f => f)) k2 (fun q hq hs => by have := own_from OW.out hq; omega))
      have KW2 := Lib.hid ((KW.out.trans kr (fun _ _ f => f) (fun _ _ f => f)).trans k2 (fun _ _ f => f) (fun q hq hs => by omega) : Kept (fun _ => False) w W2)
      have hb2 := (KW2.out.block b HL.out (fun f => f)).trans HM.out
      have n2 := run_entry_at (P := Tryz.prog) W2 w.heap.size b M.length seen es M.length e (by rw [eb]; exact hr2) hb2 hes2 (by rw [← ES.out]; exact born_once M)
      rw [ek, ev] at n2
      unfold aggS at n1 n2
      have R2 := Lib.hid hr2
      have num := (chk_num (MAY.out m (List.mem_of_getElem? hm))).2.2.2.1
      have E := Lib.hid (expired_all m now num.1 num.2 h1 h2)
      obtain ⟨be, hbe⟩ : ∃ c, lateB m.st now = c := ⟨_, rfl⟩
      rw [hbe] at E
      have BE := Lib.hid hbe
      clear hw1 kr hr1 hW2 k2 hr2 hb2 hes2 hes3 hun hm hem eb ek ev hr hb hold num hbe he
      go_wp2_with fail
      refine (E.out _).mono ?_
      rintro e4 w4 ⟨rfl, k4⟩
      have KA := Lib.hid (((Kept.refl (fun _ => False) W2).alloc _).trans k4 (fun _ _ f => f) (fun _ _ f => f) : Kept (fun _ => False) W2 w4)
      have c4 : SpanAt w4 W2.heap.size m := (SpanAt.new (w := W2) (m := m)).keptF k4
      clear k4
      cases be with
      | true =>
        have K5 := Lib.hid (KW2.out.trans KA.out (fun _ _ f => f) (fun _ _ f => f) : Kept (fun _ => False) w w4)
        have R5 := Lib.hid ((KA.out.block _ (Array.getElem?_eq_some_iff.1 R2.out).1 (fun f => f)).trans R2.out)
        have O5 := Lib.hid (own_kept OW2.out KA.out (fun _ _ f => f))
        clear c4
        go_wp2
        go_roundg (leftOf es (seen.push i)).size
        case measure => rw [GK.out]; exact HSH.out
        case rel =>
          have e := live_late (V := V) BE.out
          exact ⟨seen.push i, V ++ [m], rfl, ⟨ao, cap, by rw [e]⟩, by rw [e]; exact O5.out, PE2.out, R5.out, K5.out⟩
      | false =>
        have q0 := c4 0 _ rfl
        have q1 := c4 1 _ rfl
        have q2 := c4 2 _ rfl
        have q3 := c4 3 _ rfl
        have q4 := c4 4 _ rfl
        have q5 := c4 5 _ rfl
        have q6 := c4 6 _ rfl
        have q7 := c4 7 _ rfl
        have O5 := Lib.hid (own_kept OW2.out KA.out (fun _ _ f => f))
        have s5 : w.heap.size + 1 ≤ w4.heap.size := by
          have e1 := (Array.getElem?_eq_some_iff.1 R2.out).1
          have := KA.out.size
          omega
        obtain ⟨n, hn⟩ : ∃ n, (liveF now V).length = n := ⟨_, rfl⟩
        have LN := Lib.hid hn
        rw [hn] at O5 hlen ⊢
        clear c4 hn
        go_wp2_with (at_builtin; refine wpList_append_own _ rfl _ _ 59 rfl (w.heap.size + 1) 35 i0 _ 8 88 Tryz.underlying59 hi0 hz0 hz1 hz2 rfl (by decide) _ _ _ rfl (own_kept O5.out ((Kept.refl (fun _ => False) w4).alloc _) (fun _ _ f => f)) ⟨w4.heap.size, 0, none⟩ 1 1 m.cells rfl rfl (World.news_of_block (heap_alloc_new w4 _)) ?qa ?qb ?qc ?qd ?_)
        case qa => intro u hu; simp [Spn.cells] at hu; rcases hu with rfl | rfl | rfl | rfl | rfl | rfl | rfl | rfl <;> rfl
        case qb => unfold maxLen; omega
        case qc => omega
        case qd => simp; omega
        intro v' w5 hown hgrow hnil
        have K6 := Lib.hid ((((KW2.out.trans KA.out (fun _ _ f => f) (fun _ _ f => f)).alloc (Obj.cells #[.int .i64 m.tr, .int .i64 m.id, .int .i64 m.pa, .string m.se, .string m.ho, .int .i64 m.st, .int .i64 m.du, .string m.no] 35)) : Kept (fun _ => False) w _).grown hgrow (fun k hk hlt => by have := own_from O5.out hk; omega))
        have R6 := Lib.hid (show w5.heap[w.heap.size]? = some (.mapIter (some b) M.length (seen.push i) M.length) from by
          have hl : w.heap.size < w4.heap.size := by omega
          rw [hgrow.block _ (by simp; omega) (fun hk => by have := own_from O5.out hk.symm; omega), ((Kept.refl (fun _ => False) w4).alloc _).block _ hl (fun f => f), KA.out.block _ (Array.getElem?_eq_some_iff.1 R2.out).1 (fun f => f)]
          exact R2.out)
        have O6 := Lib.hid hown
        obtain ⟨ao2, cap2, rfl⟩ := own_slice hown
        clear hown hgrow hnil q0 q1 q2 q3 q4 q5 q6 q7
        go_wp2
        go_roundg (leftOf es (seen.push i)).size
        case measure => rw [GK.out]; exact HSH.out
        case rel =>
          have e := live_live (V := V) BE.out
          have e2 : (liveF now V ++ [m]).length = n + 1 := by rw [List.length_append, LN.out]; rfl
          have e3 : cellsS (liveF now V ++ [m]) = cellsS (liveF now V) ++ m.cells := by rw [cellsS_append]; simp [cellsS]
          exact ⟨seen.push i, V ++ [m], rfl, ⟨ao2, cap2, by rw [e, e2]⟩, by rw [e, e2, e3]; exact O6.out, PE2.out, R6.out, K6.out⟩
end Go.Proofs.YtelhdbkkigehgaaGreatDoor

/- Spans as the evaluator's values. -/
namespace Go.Proofs.YtelhdbkkigehgaaGreatDoor
open Go.RowKit Go.Eng

structure SV where
  tr : Nat
  id : Nat
  pa : Nat
  se : List Nat
  ho : List Nat
  st : Nat
  du : Nat
  no : List Nat
noncomputable section
def SV.spn (s : SV) : Spn := ⟨(s.tr : Int), (s.id : Int), (s.pa : Int), bs s.se, bs s.ho, (s.st : Int), (s.du : Int), bs s.no⟩
def SV.cells (s : SV) : List AV := [.int .i64 (.ofNat s.tr), .int .i64 (.ofNat s.id), .int .i64 (.ofNat s.pa), .str s.se, .str s.ho, .int .i64 (.ofNat s.st), .int .i64 (.ofNat s.du), .str s.no]
def svC (a b c d e f g i : AV) : Option SV := match a, b, c, d, e, f, g, i with
  | .int .i64 (.ofNat tr), .int .i64 (.ofNat id), .int .i64 (.ofNat pa), .str se, .str ho, .int .i64 (.ofNat st), .int .i64 (.ofNat du), .str no => some ⟨tr, id, pa, se, ho, st, du, no⟩
  | _, _, _, _, _, _, _, _ => none
def rowSV : List AV → Option (List SV)
  | [] => some []
  | a :: b :: c :: d :: e :: f :: g :: i :: l => (svC a b c d e f g i).bind fun s => (rowSV l).map (s :: ·)
  | _ => none
def cellsV : List SV → List AV
  | [] => []
  | s :: l => s.cells ++ cellsV l
/-- The spans of a model's map, which were laid into it one by one. -/
def esSV : List (AV × AV × Nat) → Nat → Option (List SV)
  | [], _ => some []
  | (k, v, b) :: es, n => match k, v with
    | .agg [.int .i64 (.ofNat x), .int .i64 (.ofNat y)], .agg l => (rowSV l).bind fun r => match r with
      | [s] => bif Nat.beq b n && (Nat.beq x s.tr && Nat.beq y s.id) then (esSV es (n + 1)).map (s :: ·) else none
      | _ => none
    | _, _ => none
def entV : List SV → Nat → List (AV × AV × Nat)
  | [], _ => []
  | s :: l, n => (.agg [.int .i64 (.ofNat s.tr), .int .i64 (.ofNat s.id)], .agg s.cells, n) :: entV l (n + 1)
def freshV (now : Nat) (s : SV) : Bool := chkB s.spn && !lateB s.spn.st (now : Int)
def allV (p : SV → Bool) : List SV → Bool
  | [] => true
  | s :: l => p s && allV p l
def sameV (s t : SV) : Bool := Nat.beq s.tr t.tr && Nat.beq s.id t.id
def apartV : List SV → Bool
  | [] => true
  | s :: l => allV (fun t => !sameV s t) l && apartV l
/-- s comes ahead of t. -/
def aheadV (s t : SV) : Bool := Nat.blt s.tr t.tr || (Nat.beq s.tr t.tr && Nat.blt s.id t.id)
def insV (s : SV) : List SV → List SV
  | [] => [s]
  | t :: l => bif aheadV s t then s :: t :: l else t :: insV s l
def sortV : List SV → List SV
  | [] => []
  | s :: l => insV s (sortV l)
def pairsV : List SV → Bool
  | [] => true
  | s :: l => allV (fun t => aheadV s t) l && pairsV l
end

theorem allV_iff {p : SV → Bool} : ∀ {l : List SV}, allV p l = true ↔ ∀ s ∈ l, p s = true
  | [] => by simp [allV]
  | s :: l => by simp [allV, allV_iff (l := l)]
theorem svC_some {a b c d e f g i : AV} {s : SV} (h : svC a b c d e f g i = some s) : [a, b, c, d, e, f, g, i] = s.cells := by
  unfold svC at h
  split at h
  · cases h; rfl
  · cases h
theorem rowSV_some : ∀ {l : List AV} {r : List SV}, rowSV l = some r → l = cellsV r
  | [], r, h => by simp [rowSV] at h; subst h; rfl
  | [_], _, h | [_, _], _, h | [_, _, _], _, h | [_, _, _, _], _, h | [_, _, _, _, _], _, h | [_, _, _, _, _, _], _, h | [_, _, _, _, _, _, _], _, h => by simp [rowSV] at h
  | a :: b :: c :: d :: e :: f :: g :: i :: l, r, h => by
    rw [rowSV, Option.bind_eq_some_iff] at h
    obtain ⟨s, h1, h2⟩ := h
    rw [Option.map_eq_some_iff] at h2
    obtain ⟨r', h2, rfl⟩ := h2
    rw [cellsV, ← rowSV_some h2, ← svC_some h1]
    rfl
theorem cells_conc {σ : Sig} {η : Env} {s : SV} {vs : List Value} : concs σ η s.cells = some vs ↔ (allB s.se = true ∧ allB s.ho = true ∧ allB s.no = true) ∧ vs = s.spn.cells := by
  unfold SV.cells Spn.cells SV.spn
  constructor
  · intro h
    obtain ⟨v0, r0, h0, g0, rfl⟩ := concs_cons.1 h
    obtain ⟨v1, r1, h1, g1, rfl⟩ := concs_cons.1 g0
    obtain ⟨v2, r2, h2, g2, rfl⟩ := concs_cons.1 g1
    obtain ⟨v3, r3, h3, g3, rfl⟩ := concs_cons.1 g2
    obtain ⟨v4, r4, h4, g4, rfl⟩ := concs_cons.1 g3
    obtain ⟨v5, r5, h5, g5, rfl⟩ := concs_cons.1 g4
    obtain ⟨v6, r6, h6, g6, rfl⟩ := concs_cons.1 g5
    obtain ⟨v7, r7, h7, g7, rfl⟩ := concs_cons.1 g6
    rw [concs_nil] at g7; cases g7
    rw [conc_int] at h0 h1 h2 h5 h6
    obtain ⟨a3, rfl⟩ := conc_str.1 h3
    obtain ⟨a4, rfl⟩ := conc_str.1 h4
    obtain ⟨a7, rfl⟩ := conc_str.1 h7
    subst h0 h1 h2 h5 h6
    exact ⟨⟨a3, a4, a7⟩, rfl⟩
  · rintro ⟨⟨a3, a4, a7⟩, rfl⟩
    exact concs_cons.2 ⟨_, _, conc_int.2 rfl, concs_cons.2 ⟨_, _, conc_int.2 rfl, concs_cons.2 ⟨_, _, conc_int.2 rfl, concs_cons.2 ⟨_, _, conc_str.2 ⟨a3, rfl⟩, concs_cons.2 ⟨_, _, conc_str.2 ⟨a4, rfl⟩, concs_cons.2 ⟨_, _, conc_int.2 rfl, concs_cons.2 ⟨_, _, conc_int.2 rfl, concs_cons.2 ⟨_, _, conc_str.2 ⟨a7, rfl⟩, concs_nil, rfl⟩, rfl⟩, rfl⟩, rfl⟩, rfl⟩, rfl⟩, rfl⟩, rfl⟩
def textsV (s : SV) : Prop := allB s.se = true ∧ allB s.ho = true ∧ allB s.no = true
theorem concs_split {σ : Sig} {η : Env} : ∀ {a b : List AV} {vs : List Value}, concs σ η (a ++ b) = some vs → ∃ x y, concs σ η a = some x ∧ concs σ η b = some y ∧ vs = x ++ y
  | [], b, vs, h => ⟨[], vs, rfl, h, rfl⟩
  | u :: a, b, vs, h => by
    obtain ⟨v, r, h1, h2, rfl⟩ := concs_cons.1 h
    obtain ⟨x, y, h3, h4, rfl⟩ := concs_split h2
    exact ⟨v :: x, y, concs_cons.2 ⟨v, x, h1, h3, rfl⟩, h4, rfl⟩
theorem rows_conc {σ : Sig} {η : Env} : ∀ {L : List SV} {vs : List Value}, concs σ η (cellsV L) = some vs ↔ (∀ s ∈ L, textsV s) ∧ vs = cellsS (L.map SV.spn)
  | [], vs => by simp [cellsV, cellsS, concs, eq_comm]
  | s :: L, vs => by
    rw [cellsV, List.map_cons, cellsS]
    constructor
    · intro h
      obtain ⟨x, y, h1, h2, rfl⟩ := concs_split h
      obtain ⟨t, rfl⟩ := cells_conc.1 h1
      obtain ⟨ts, rfl⟩ := rows_conc.1 h2
      exact ⟨fun z hz => by rcases List.mem_cons.1 hz with rfl | hz; exact t; exact ts z hz, rfl⟩
    · rintro ⟨t, rfl⟩
      exact concs_append (cells_conc.2 ⟨t s List.mem_cons_self, rfl⟩) (rows_conc.2 ⟨fun z hz => t z (List.mem_cons_of_mem _ hz), rfl⟩)
theorem cells_one : ∀ L : List Spn, allOne (cellsS L) = true
  | [] => rfl
  | m :: t => by
    have : allOne (m.cells ++ cellsS t) = (allOne m.cells && allOne (cellsS t)) := by
      have : ∀ a b : List Value, allOne (a ++ b) = (allOne a && allOne b) := by
        intro a b; induction a with
        | nil => simp [allOne]
        | cons x a ih => simp [allOne, ih, Bool.and_assoc]
      exact this _ _
    rw [cellsS, this, cells_one t]; rfl
theorem aggS_conc {σ : Sig} {η : Env} {s : SV} {v : Value} : conc σ η (.agg s.cells) = some v ↔ textsV s ∧ v = aggS s.spn := by
  rw [conc_agg]
  constructor
  · rintro ⟨vs, h, _, rfl⟩
    obtain ⟨t, rfl⟩ := cells_conc.1 h
    exact ⟨t, rfl⟩
  · rintro ⟨t, rfl⟩
    exact ⟨_, cells_conc.2 ⟨t, rfl⟩, rfl, rfl⟩
theorem key_conc {σ : Sig} {η : Env} {x y : Nat} {v : Value} : conc σ η (.agg [.int .i64 (.ofNat x), .int .i64 (.ofNat y)]) = some v ↔ v = keyV ((x : Int), (y : Int)) := by
  rw [conc_agg]
  constructor
  · rintro ⟨vs, h, _, rfl⟩
    obtain ⟨v0, r0, h0, g0, rfl⟩ := concs_cons.1 h
    obtain ⟨v1, r1, h1, g1, rfl⟩ := concs_cons.1 g0
    rw [concs_nil] at g1; cases g1
    rw [conc_int] at h0 h1
    subst h0 h1
    rfl
  · rintro rfl
    exact ⟨_, concs_cons.2 ⟨_, _, conc_int.2 rfl, concs_cons.2 ⟨_, _, conc_int.2 rfl, concs_nil, rfl⟩, rfl⟩, rfl, rfl⟩
theorem es_ents {σ : Sig} {η : Env} : ∀ {es : List (AV × AV × Nat)} {n : Nat} {M : List SV} {ms : List MapEntry}, esSV es n = some M → EsR σ η es ms → ms = entsL n (kvM (M.map SV.spn)) ∧ (∀ s ∈ M, textsV s) ∧ es = entV M n
  | [], _, _, [], h, _ => by simp [esSV] at h; subst h; exact ⟨rfl, by simp, rfl⟩
  | [], _, _, _ :: _, _, r => r.elim
  | _ :: _, _, _, [], _, r => by obtain ⟨_, _, _⟩ := ‹AV × AV × Nat›; exact r.elim
  | (k, v, b) :: es, n, M, e :: ms, h, ⟨r1, r2, r3, r4⟩ => by
    unfold esSV at h
    split at h
    rotate_left
    · cases h
    rename_i x y l
    rw [Option.bind_eq_some_iff] at h
    obtain ⟨r, hr, h⟩ := h
    split at h
    rotate_left
    · cases h
    rename_i s
    cases q : (Nat.beq b n && (Nat.beq x s.tr && Nat.beq y s.id)) with
    | false => rw [q] at h; cases h
    | true =>
    rw [q, cond_true, Option.map_eq_some_iff] at h
    rw [Bool.and_eq_true, Bool.and_eq_true] at q
    obtain ⟨M', h, rfl⟩ := h
    obtain ⟨i1, i2, i3⟩ := es_ents h r4
    have hl := rowSV_some hr
    rw [cellsV, cellsV, List.append_nil] at hl
    subst hl
    obtain ⟨t, ev⟩ := aggS_conc.1 r2
    have ek := key_conc.1 r1
    have b1 := Nat.eq_of_beq_eq_true q.1
    have b2 := Nat.eq_of_beq_eq_true q.2.1
    have b3 := Nat.eq_of_beq_eq_true q.2.2
    subst b1 b2 b3
    refine ⟨?_, fun z hz => ?_, by rw [entV, i3]⟩
    · have : e = ⟨keyV (keyOf s.spn), aggS s.spn, b⟩ := by cases e; simp only at ek ev r3; subst ek ev r3; rfl
      rw [this, i1]
      rfl
    · rcases List.mem_cons.1 hz with rfl | hz
      · exact t
      · exact i2 z hz
theorem ents_es {σ : Sig} {η : Env} : ∀ {M : List SV} {n : Nat}, (∀ s ∈ M, textsV s) → EsR σ η (entV M n) (entsL n (kvM (M.map SV.spn)))
  | [], _, _ => trivial
  | s :: _, _, h => ⟨key_conc.2 rfl, aggS_conc.2 ⟨h s List.mem_cons_self, rfl⟩, rfl, ents_es (fun z hz => h z (List.mem_cons_of_mem _ hz))⟩
theorem entV_length : ∀ (M : List SV) (n : Nat), (entV M n).length = M.length
  | [], _ => rfl
  | s :: M, n => by simp [entV, entV_length M (n + 1)]
theorem entV_append : ∀ (M L : List SV) (n : Nat), entV (M ++ L) n = entV M n ++ entV L (n + M.length)
  | [], _, _ => rfl
  | s :: M, L, n => by rw [List.cons_append, entV, entV, entV_append M L (n + 1), List.cons_append, List.length_cons, show n + 1 + M.length = n + (M.length + 1) by omega]
theorem apart_nodup : ∀ {M : List SV}, apartV M = true → ((M.map SV.spn).map keyOf).Nodup
  | [], _ => by simp
  | s :: M, h => by
    rw [apartV, Bool.and_eq_true, allV_iff] at h
    rw [List.map_cons, List.map_cons, List.nodup_cons]
    refine ⟨fun hm => ?_, apart_nodup h.2⟩
    rw [List.map_map, List.mem_map] at hm
    obtain ⟨t, ht, e⟩ := hm
    have := h.1 t ht
    have e1 : (t.tr : Int) = s.tr := congrArg Prod.fst e
    have e2 : (t.id : Int) = s.id := congrArg Prod.snd e
    have e1' : s.tr = t.tr := by omega
    have e2' : s.id = t.id := by omega
    unfold sameV at this
    rw [e1', e2', Nat.beq_refl, Nat.beq_refl] at this
    cases this

/-! ### what is taken -/
theorem put_new {s : Spn} : ∀ {M : List Spn}, keyOf s ∉ M.map keyOf → putM s M = M ++ [s]
  | [], _ => rfl
  | m :: t, h => by
    rw [List.map_cons, List.mem_cons, not_or] at h
    rw [putM, if_neg h.1, put_new h.2]; rfl
theorem take_fresh (now : Int) : ∀ (L M : List Spn) (K : List (Int × Int)), (∀ s ∈ L, chkB s = true ∧ lateB s.st now = false) → ((M ++ L).map keyOf).Nodup → (∀ s ∈ L, keyOf s ∉ K) → takeF now L M K = (M ++ L, L.length)
  | [], M, K, _, _, _ => by simp [takeF]
  | s :: t, M, K, h1, h2, h3 => by
    have hs := h1 s List.mem_cons_self
    have hn : keyOf s ∉ M.map keyOf := by
      rw [List.map_append, List.nodup_append] at h2
      intro hm
      exact h2.2.2 _ hm _ (by simp) rfl
    have hb : hasB now (keyOf s) M = false := by
      unfold hasB
      cases e : lookM (keyOf s) M with
      | none => rfl
      | some o =>
        obtain ⟨ho, hk⟩ := look_mem e
        exact absurd (List.mem_map.2 ⟨o, ho, hk⟩) hn
    have hsk : skipB now M K s = false := by
      unfold skipB
      rw [hs.1, hs.2, hb, decide_eq_false (h3 s List.mem_cons_self)]; rfl
    have ht : s ∉ t ∧ ∀ x ∈ t, keyOf x ≠ keyOf s := by
      rw [List.map_append, List.nodup_append, List.map_cons, List.nodup_cons] at h2
      exact ⟨fun hm => h2.2.1.1 (List.mem_map.2 ⟨s, hm, rfl⟩), fun x hx e => h2.2.1.1 (List.mem_map.2 ⟨x, hx, e⟩)⟩
    rw [take_put hsk, put_new hn, take_fresh now t (M ++ [s]) (K ++ [keyOf s]) (fun x hx => h1 x (List.mem_cons_of_mem _ hx)) (by rw [List.append_assoc]; exact h2)
      (fun x hx hm => by rcases List.mem_append.1 hm with hm | hm; exact h3 x (List.mem_cons_of_mem _ hx) hm; exact ht.2 x hx (by simpa using hm))]
    simp
/-! ### what is sorted -/
theorem ins_perm (s : SV) : ∀ l, (insV s l).Perm (s :: l)
  | [] => List.Perm.refl _
  | t :: l => by
    unfold insV
    cases aheadV s t with
    | true => exact List.Perm.refl _
    | false => exact ((ins_perm s l).cons t).trans (List.Perm.swap s t l)
theorem sortV_perm : ∀ l, (sortV l).Perm l
  | [] => List.Perm.refl _
  | s :: l => (ins_perm s (sortV l)).trans ((sortV_perm l).cons s)
theorem pairs_sorted : ∀ {l : List SV}, pairsV l = true → (l.map SV.spn).Pairwise keyLt
  | [], _ => List.Pairwise.nil
  | s :: l, h => by
    rw [pairsV, Bool.and_eq_true, allV_iff] at h
    rw [List.map_cons, List.pairwise_cons]
    refine ⟨fun x hx => ?_, pairs_sorted h.2⟩
    obtain ⟨t, ht, rfl⟩ := List.mem_map.1 hx
    have := h.1 t ht
    unfold aheadV at this
    rw [Bool.or_eq_true, Bool.and_eq_true, Nat.blt_eq, Nat.blt_eq, Nat.beq_eq] at this
    unfold keyLt SV.spn
    simp only
    omega
/-- One sorted row alone: of spans no two of which have the same key. -/
theorem sorted_one : ∀ {a b : List Spn}, a.Perm b → SortedS a → b.Pairwise keyLt → a = b
  | a, [], h, _, _ => List.Perm.eq_nil h
  | [], x :: b, h, _, _ => by have := h.length_eq; simp at this
  | y :: a, x :: b, h, ha, hb => by
    have hx : x = y := by
      have h1 : x ∈ y :: a := h.symm.subset List.mem_cons_self
      have h2 : y ∈ x :: b := h.subset List.mem_cons_self
      rcases List.mem_cons.1 h1 with e | h1
      · exact e
      rcases List.mem_cons.1 h2 with e | h2
      · exact e.symm
      · have := (List.pairwise_cons.1 ha).1 x h1
        exact absurd ((List.pairwise_cons.1 hb).1 y h2) this
    subst hx
    rw [sorted_one ((List.perm_cons x).1 h) (List.pairwise_cons.1 ha).2 (List.pairwise_cons.1 hb).2]
end Go.Proofs.YtelhdbkkigehgaaGreatDoor

/- (*Model).Take and (*Model).Spans, as summaries: spans that are new, none late. -/
namespace Go.Proofs.YtelhdbkkigehgaaGreatDoor
open Go.RowKit Go.Eng

noncomputable section
def slV (h : Heap) : AV → Option (List SV)
  | .nils => some []
  | .slice n o len _ _ => (cells? h n).bind fun tc => (row? tc.2 o (len * 8)).bind fun r => (rowSV r).bind fun L => bif Nat.beq L.length len then some L else none
  | _ => none
def mapV (h : Heap) (n o : Nat) : Option (Nat × Nat × List SV) := (cells? h n).bind fun tc => match nth tc.2 o with
  | some (.map m) => match h.get m with
    | some (.map es cl) => (esSV es 0).bind fun M => bif Nat.beq cl M.length then some (m, cl, M) else none
    | _ => none
  | _ => none
def mtkS (args : List AV) (h : Heap) (c : Nat) : Option CRes := match args with
  | [.ptr n o, sl, .int .i64 (.ofNat now)] => bif Nat.ble now 4294967296 then
      (mapV h n o).bind fun x => (slV h sl).bind fun L =>
        bif Nat.ble L.length 1000000 && (allV (fun s => chkB s.spn) x.2.2 && (allV (freshV now) L && apartV (x.2.2 ++ L))) then
          outC (putMap h x.1 (entV (x.2.2 ++ L) 0) (x.2.1 + L.length) fun h => some (.val (.int .i64 (.ofNat L.length)) h c))
        else none
    else none
  | _ => none
def mspS (args : List AV) (h : Heap) (c : Nat) : Option CRes := match args with
  | [.ptr n o, .int .i64 (.ofNat now)] => bif Nat.ble now 4294967296 then
      (mapV h n o).bind fun x => bif Nat.ble x.2.2.length 1000000 && (allV (freshV now) x.2.2 && pairsV (sortV x.2.2)) then
        match sortV x.2.2 with
        | [] => none
        | s :: l => outC (newCells h c 35 (cellsV (s :: l)) (.slice c 0 (s :: l).length (s :: l).length true))
      else none
    else none
  | _ => none
end

theorem chk_fits {m : Spn} (h : chkB m = true) : Fits m := by
  unfold chkB nameB at h
  simp at h
  unfold Fits
  omega
theorem mapV_ok {σ : Sig} {η : Env} {h : Heap} {c n o m cl : Nat} {M : List SV} {w : World} {l : Eng.Loc} (e : mapV h n o = some (m, cl, M)) (H : HR Tryz.prog σ η h c w) (hl : σ n = some l) (hM : ∀ s ∈ M, chkB s.spn = true) :
    ∃ es lm ms, h.get m = some (.map es cl) ∧ σ m = some lm ∧ w.heap[lm.blk]? = some (.map ms cl) ∧ cl = M.length ∧ ms.toList = entsL 0 (kvM (M.map SV.spn)) ∧ (∀ s ∈ M, textsV s) ∧ ModelAt w l.blk (l.off + o) lm.blk (M.map SV.spn) := by
  unfold mapV at e
  rw [Option.bind_eq_some_iff] at e
  obtain ⟨⟨t, cs⟩, hc, e⟩ := e
  split at e
  rotate_left
  · cases e
  rename_i m' em
  split at e
  rotate_left
  · cases e
  rename_i es cl' hg
  rw [Option.bind_eq_some_iff] at e
  obtain ⟨M', hes, e⟩ := e
  cases q : Nat.beq cl' M'.length with
  | false => rw [q] at e; cases e
  | true =>
  rw [q, cond_true] at e
  cases e
  have q := Nat.eq_of_beq_eq_true q
  obtain ⟨us, u1, u2, u3, _⟩ := H.cells hc hl
  rw [nth_eq] at em
  obtain ⟨u, q1, q2⟩ := (concs_get u1 o).2 _ em
  obtain ⟨lm, hlm, rfl⟩ := conc_map.1 q2
  have hcell := u3 _ _ q1
  obtain ⟨ms, hb, hE⟩ := H.mapAt hg hlm
  obtain ⟨f1, f2, f3⟩ := es_ents hes hE
  refine ⟨es, lm, ms, hg, hlm, hb, q, f1, f2, hcell, ?_, ?_⟩
  · unfold MapIs
    rw [← f1, hb, q]
    simp [kvM]
  · intro s hs
    obtain ⟨z, hz, rfl⟩ := List.mem_map.1 hs
    exact hM z hz
theorem slV_ok {σ : Sig} {η : Env} {h : Heap} {c : Nat} {sl : AV} {L : List SV} {w : World} {v : Value} (e : slV h sl = some L) (H : HR Tryz.prog σ η h c w) (hv : conc σ η sl = some v) : ReadsS w v (L.map SV.spn) ∧ ∀ s ∈ L, textsV s := by
  unfold slV at e
  split at e
  · cases e
    rw [conc_nils] at hv
    subst hv
    exact ⟨⟨none, 0, rfl, .inl rfl⟩, by simp⟩
  · rename_i n o len cap fl
    rw [Option.bind_eq_some_iff] at e
    obtain ⟨⟨t, cs⟩, hc, e⟩ := e
    rw [Option.bind_eq_some_iff] at e
    obtain ⟨r, hr, e⟩ := e
    rw [Option.bind_eq_some_iff] at e
    obtain ⟨L', hL, e⟩ := e
    cases q : Nat.beq L'.length len with
    | false => rw [q] at e; cases e
    | true =>
    rw [q, cond_true] at e
    cases e
    have q := Nat.eq_of_beq_eq_true q
    obtain ⟨l, hl, rfl⟩ := conc_slice.1 hv
    obtain ⟨vs, c1, _, _, c4, _⟩ := H.row hc hl hr
    have hr2 := rowSV_some hL
    subst hr2
    obtain ⟨ts, rfl⟩ := rows_conc.1 c1
    subst q
    exact ⟨⟨some ⟨l.blk, l.off + o, none⟩, cap + (if fl = true then l.slack else 0), by rw [List.length_map], .inr ⟨_, _, rfl, c4⟩⟩, ts⟩
  · cases e

theorem mtk_ok {η : Env} {args : List AV} {h : Heap} {c : Nat} {v : AV} {h' : Heap} {c' : Nat} (he : mtkS args h c = some (.mk v h' c')) {σ : Sig} {w : World} {avs : List Value} (H : HR Tryz.prog σ η h c w) (ha : concs σ η args = some avs) : Calls Tryz.prog 336 avs.toArray w (Done Tryz.prog η σ h c w v h' c') := by
  unfold mtkS at he
  split at he
  rotate_left
  · cases he
  rename_i n o sl now
  obtain ⟨pv, r0, hp, hr0, rfl⟩ := concs_cons.1 ha
  obtain ⟨sv, r1, hs, hr1, rfl⟩ := concs_cons.1 hr0
  obtain ⟨nv, r2, hn, hr2, rfl⟩ := concs_cons.1 hr1
  rw [concs_nil] at hr2; cases hr2
  obtain ⟨l, hl, rfl⟩ := conc_ptr.1 hp
  rw [conc_int] at hn
  subst hn
  cases q : Nat.ble now 4294967296 with
  | false => rw [q] at he; cases he
  | true =>
  rw [q, cond_true, Option.bind_eq_some_iff] at he
  have q := Nat.le_of_ble_eq_true q
  obtain ⟨⟨m, cl, M⟩, hm, he⟩ := he
  rw [Option.bind_eq_some_iff] at he
  obtain ⟨L, hL, he⟩ := he
  cases q2 : (Nat.ble L.length 1000000 && (allV (fun s => chkB s.spn) M && (allV (freshV now) L && apartV (M ++ L)))) with
  | false => simp only [q2, cond_false] at he; cases he
  | true =>
  simp only [q2, cond_true] at he
  rw [Bool.and_eq_true, Bool.and_eq_true, Bool.and_eq_true, allV_iff, allV_iff] at q2
  obtain ⟨q3, q4, q5, q6⟩ := q2
  have q3 := Nat.le_of_ble_eq_true q3
  obtain ⟨es, lm, ms, hg, hlm, hb, rfl, hms, tM, hA⟩ := mapV_ok hm H hl q4
  obtain ⟨hR, tL⟩ := slV_ok hL H hs
  have hnd := apart_nodup q6
  have hF : ∀ s ∈ L.map SV.spn, chkB s = true ∧ lateB s.st (now : Int) = false := fun s hs => by
    obtain ⟨z, hz, rfl⟩ := List.mem_map.1 hs
    have := q5 z hz
    unfold freshV at this
    rw [Bool.and_eq_true, Bool.not_eq_true'] at this
    exact this
  have hT := take_fresh (now : Int) (L.map SV.spn) (M.map SV.spn) [] hF (by rw [← List.map_append]; exact hnd) (by simp)
  have hHeld : Held (M.map SV.spn) := ⟨hA.may, by rw [List.map_append, List.map_append, List.nodup_append] at hnd; exact hnd.1⟩
  have he := outC_some he
  obtain ⟨hbn, he⟩ := putMap_ok he
  cases he
  refine Calls.mono (take_all (now : Int) (by omega) (by omega) hA hHeld hR (by rw [List.length_map]; omega) (fun m hm => chk_fits (hF m hm).1)) ?_
  rintro e w' ⟨rfl, hK, hA'⟩
  rw [hT] at hA' ⊢
  refine ⟨_, σ, rfl, conc_int.2 (by simp), ?_⟩
  have hmap : w'.heap[lm.blk]? = some (.map (entsL 0 (kvM ((M ++ L).map SV.spn))).toArray (M.length + L.length)) := by
    have := hA'.map
    unfold MapIs at this
    rw [this, List.map_append]
    simp [kvM]
  have W1 := map_ok (cl' := M.length + L.length) H hbn hg hlm hb (ms' := (entsL 0 (kvM ((M ++ L).map SV.spn))).toArray) (es' := entV (M ++ L) 0) (by
    rw [List.toList_toArray]
    exact ents_es (fun s hs => by rcases List.mem_append.1 hs with hs | hs; exact tM s hs; exact tL s hs))
  have hlt : lm.blk < w.heap.size := (Array.getElem?_eq_some_iff.1 hb).1
  refine W1.trans (Went.same W1.rel (fun k hk => ?_) ?_ hK.os hK.tape hK.output)
  · simp only [Array.size_setIfInBounds] at hk
    by_cases e : k = lm.blk
    · subst e
      rw [hmap]
      simp [hlt]
    · rw [hK.block k hk e]
      simp [Array.getElem?_setIfInBounds_ne (Ne.symm e)]
  · simp only [Array.size_setIfInBounds]
    exact hK.size

theorem msp_ok {η : Env} {args : List AV} {h : Heap} {c : Nat} {v : AV} {h' : Heap} {c' : Nat} (he : mspS args h c = some (.mk v h' c')) {σ : Sig} {w : World} {avs : List Value} (H : HR Tryz.prog σ η h c w) (ha : concs σ η args = some avs) : Calls Tryz.prog 226 avs.toArray w (Done Tryz.prog η σ h c w v h' c') := by
  unfold mspS at he
  split at he
  rotate_left
  · cases he
  rename_i n o now
  obtain ⟨pv, r0, hp, hr0, rfl⟩ := concs_cons.1 ha
  obtain ⟨nv, r2, hn, hr2, rfl⟩ := concs_cons.1 hr0
  rw [concs_nil] at hr2; cases hr2
  obtain ⟨l, hl, rfl⟩ := conc_ptr.1 hp
  rw [conc_int] at hn
  subst hn
  cases q : Nat.ble now 4294967296 with
  | false => rw [q] at he; cases he
  | true =>
  rw [q, cond_true, Option.bind_eq_some_iff] at he
  have q := Nat.le_of_ble_eq_true q
  obtain ⟨⟨m, cl, M⟩, hm, he⟩ := he
  cases q2 : (Nat.ble M.length 1000000 && (allV (freshV now) M && pairsV (sortV M))) with
  | false => simp only [q2, cond_false] at he; cases he
  | true =>
  simp only [q2, cond_true] at he
  rw [Bool.and_eq_true, Bool.and_eq_true, allV_iff] at q2
  obtain ⟨q3, q5, q6⟩ := q2
  have q3 := Nat.le_of_ble_eq_true q3
  have hF : ∀ s ∈ M, chkB s.spn = true ∧ lateB s.spn.st (now : Int) = false := fun z hz => by
    have := q5 z hz
    unfold freshV at this
    rw [Bool.and_eq_true, Bool.not_eq_true'] at this
    exact this
  obtain ⟨es, lm, ms, hg, hlm, hb, rfl, hms, tM, hA⟩ := mapV_ok hm H hl (fun s hs => (hF s hs).1)
  refine Calls.mono (spans_all (now : Int) (by omega) (by omega) hA (by rw [List.length_map]; exact Nat.le_trans q3 (by decide))) ?_
  rintro e w' ⟨hK, sv, R, rfl, hown, hperm, hsort⟩
  have hlive : liveF (now : Int) (M.map SV.spn) = M.map SV.spn := by
    unfold liveF
    rw [List.filter_eq_self]
    intro s hs
    obtain ⟨z, hz, rfl⟩ := List.mem_map.1 hs
    rw [(hF z hz).2]; rfl
  rw [hlive] at hperm
  have hR : R = (sortV M).map SV.spn := sorted_one (hperm.trans ((sortV_perm M).symm.map _)) hsort (pairs_sorted q6)
  have tS : ∀ s ∈ sortV M, textsV s := fun s hs => tM s ((sortV_perm M).subset hs)
  subst hR
  split at he
  · cases he
  rename_i s0 l0 es0
  rw [es0] at hown tS
  have he := outC_some he
  unfold newCells fCells at he
  rw [fAVs_eq] at he
  obtain ⟨hcb, he⟩ := putObj_ok he
  rw [fNat_eq] at he
  cases he
  obtain ⟨r1, r2⟩ := hown
  rcases r2 with ⟨_, r2⟩ | ⟨g, cap, cur, rfl, g1, g2, g3, g4, g5, g6⟩
  · simp at r2
  rw [List.length_map] at g3 g6 ⊢
  have h8 : Tryz.prog.cellsOf 35 = 8 := by kernel_rfl
  have wt := fresh_ok (P := Tryz.prog) (l := ⟨g, 0, cap - (s0 :: l0).length⟩) (o := .cells 35 (cellsV (s0 :: l0))) (w' := w') H hcb (Nat.le_of_succ_le g1) (fun k hk => hK.block k hk (fun f => f)) hK.size hK.os hK.tape hK.output
    ⟨cur, (0, 0), cellsS ((s0 :: l0).map SV.spn), g2, fun j _ q => by omega, concs_ext (ext_upd (H.new c (Nat.le_refl _))) (rows_conc.2 ⟨tS, rfl⟩), cells_one _, fun j y hj => ?_, ?_⟩
  · refine ⟨_, _, rfl, conc_slice.2 ⟨_, upd_same _ _ _, ?_⟩, wt⟩
    simp only [if_true]
    rw [show (s0 :: l0).length + (cap - (s0 :: l0).length) = cap by omega]
  · rw [← g6] at hj
    rw [List.getElem?_take] at hj
    split at hj
    · simpa using hj
    · cases hj
  · rw [h8, cellsS_length, List.length_map, g5]
    refine ⟨?_, by simp⟩
    show 0 + (s0 :: l0).length * 8 + (cap - (s0 :: l0).length) * 8 ≤ cap * 8
    omega
end Go.Proofs.YtelhdbkkigehgaaGreatDoor

/- desk.lay, as a summary: a step of one number. -/
namespace Go.Proofs.YtelhdbkkigehgaaGreatDoor
open Go.RowKit Go.Eng

theorem results_cell1 {fn : Func} {p : Tmp} {ty : TypeId} (h : fn.results = #[.cell p ty]) (tmps : Array Value) (P : Program) (w : World) :
    (results fn tmps).run P w = ((asAddr (tmps.getD p undef)).run P w).andThen fun a w₁ => (loadVar ty a).run P w₁ := by
  simp only [results, h]
  simp [Sem.run_bind, Result.andThen]

def stepV (k a b : Int) (keep : Value) : Value := .agg #[.int .i64 k, .int .i64 a, .int .i64 b, .int .i64 0, .int .i64 0, .int .i64 0, .string ⟨#[]⟩, .string ⟨#[]⟩, .int .i64 0, .int .i64 0, .string ⟨#[]⟩, keep]
theorem from_one (g o cap : Nat) (hc : 1 ≤ cap) : ∃ o', ∀ w, (Instr.slice 36 (.slice (some ⟨g, o, none⟩) 1 cap) (some (.int .i64 1)) none none).run Tryz.prog w = .ok (.slice (some ⟨g, o', none⟩) 0 (cap - 1)) w := by
  by_cases h : cap = 1
  · subst h
    exact ⟨o, fun w => by simp [go_sem]⟩
  · exact ⟨o + 1, fun w => by simp [go_sem, h]⟩
set_option maxHeartbeats 4000000 in
set_option maxRecDepth 100000 in
theorem lay_n (k : Int) (hk : k = 7 ∨ k = 10 ∨ k = 12) (g o len cap : Nat) (x : Int) (w : World) (h : w.cell? ⟨g, o, none⟩ = some (.int .i64 x)) (hl : (0 : Int) < (len : Int)) :
    Calls Tryz.prog 40 #[.int .i64 k, .slice (some ⟨g, o, none⟩) len cap] w fun e w' => e = .returned (stepV k 0 x (.slice none 0 0)) ∧ Kept (fun _ => False) w w' := by
  have b1 : g < w.heap.size := World.block_lt_of_cell? _ _ h
  have b2 : g < w.heap.size + 1 := by omega
  rcases hk with rfl | rfl | rfl
  all_goals
    go_enter Tryz.func40, Tryz.ntmps40
    go_wp2
    (try simp only [Exit.inBlock, Exit.then])
    refine bodyPost_ret (v := stepV _ 0 x (.slice none 0 0)) ?_ rfl ⟨rfl, ((Kept.refl _ w).alloc _).alloc _⟩
    rw [results_cell1 rfl]
    go_simp
    rfl
set_option maxHeartbeats 4000000 in
set_option maxRecDepth 100000 in
theorem lay_o (k : Int) (hk : k = 2 ∨ k = 5 ∨ k = 6 ∨ k = 17) (g o len cap : Nat) (x : Int) (w : World) (h : w.cell? ⟨g, o, none⟩ = some (.int .i64 x)) (hl : (0 : Int) < (len : Int)) :
    Calls Tryz.prog 40 #[.int .i64 k, .slice (some ⟨g, o, none⟩) len cap] w fun e w' => e = .returned (stepV k x 0 (.slice none 0 0)) ∧ Kept (fun _ => False) w w' := by
  have b1 : g < w.heap.size := World.block_lt_of_cell? _ _ h
  have b2 : g < w.heap.size + 1 := by omega
  rcases hk with rfl | rfl | rfl | rfl
  all_goals
    go_enter Tryz.func40, Tryz.ntmps40
    go_wp2
    (try simp only [Exit.inBlock, Exit.then])
    refine bodyPost_ret (v := stepV _ x 0 (.slice none 0 0)) ?_ rfl ⟨rfl, ((Kept.refl _ w).alloc _).alloc _⟩
    rw [results_cell1 rfl]
    go_simp
    rfl
set_option maxHeartbeats 4000000 in
set_option maxRecDepth 100000 in
theorem lay_c  (g o cap : Nat) (x : Int) (w : World) (h : w.cell? ⟨g, o, none⟩ = some (.int .i64 x)) (hc : 1 ≤ cap) :
    Calls Tryz.prog 40 #[.int .i64 15, .slice (some ⟨g, o, none⟩) 1 cap] w fun e w' => (∃ o', e = .returned (stepV 15 x 0 (.slice (some ⟨g, o', none⟩) 0 (cap - 1)))) ∧ Kept (fun _ => False) w w' := by
  have b1 : g < w.heap.size := World.block_lt_of_cell? _ _ h
  have b2 : g < w.heap.size + 1 := by omega
  obtain ⟨o', hs⟩ := from_one g o cap hc
  all_goals
    go_enter Tryz.func40, Tryz.ntmps40
    go_wp2
    go_region_held3 (fun w' => w'.cell? ⟨g, o, none⟩ = some (.int .i64 x)) (first | go_keep | (simp [go_sem, *]; done)) (fail)
    (try simp only [Exit.inBlock, Exit.then])
    go_wp2
    (try simp only [Exit.inBlock, Exit.then])
    refine bodyPost_ret (v := stepV 15 x 0 (.slice (some ⟨g, o', none⟩) 0 (cap - 1))) ?_ rfl ⟨⟨o', rfl⟩, (((Kept.refl _ w).alloc _).alloc _).drew⟩
    rw [results_cell1 rfl]
    go_simp
    rfl

noncomputable section
def stepA (k : Nat) (a b keep : AV) : List AV := [.int .i64 (.ofNat k), a, b, .int .i64 (.ofNat 0), .int .i64 (.ofNat 0), .int .i64 (.ofNat 0), .str [], .str [], .int .i64 (.ofNat 0), .int .i64 (.ofNat 0), .str [], keep]
def layS (args : List AV) (h : Heap) (c : Nat) : Option CRes := match args with
  | [.int .i64 (.ofNat k), .slice n o len cap fl] => (cells? h n).bind fun tc => match nth tc.2 o with
    | some (.int .i64 x) => bif Nat.beq len 0 then none
      else bif Nat.beq k 7 || (Nat.beq k 10 || Nat.beq k 12) then some (.mk (.agg (stepA k (.int .i64 (.ofNat 0)) (.int .i64 x) .nils)) h c)
      else bif Nat.beq k 2 || (Nat.beq k 5 || (Nat.beq k 6 || Nat.beq k 17)) then some (.mk (.agg (stepA k (.int .i64 x) (.int .i64 (.ofNat 0)) .nils)) h c)
      else bif Nat.beq k 15 && (Nat.beq len 1 && (Nat.beq cap 1 && fl)) then fNat (c + 1) fun c' => some (.mk (.agg (stepA k (.int .i64 x) (.int .i64 (.ofNat 0)) (.slice c 0 0 0 true))) h c')
      else none
    | _ => none
  | _ => none
end
theorem step_conc {σ : Sig} {η : Env} {k : Nat} {a b : Int} {keep : AV} {kv : Value} (h : conc σ η keep = some kv) (h1 : kv.oneCell' = true) : conc σ η (.agg (stepA k (.int .i64 a) (.int .i64 b) keep)) = some (stepV (k : Int) a b kv) := by
  refine conc_agg.2 ⟨[.int .i64 (k : Int), .int .i64 a, .int .i64 b, .int .i64 0, .int .i64 0, .int .i64 0, .string ⟨#[]⟩, .string ⟨#[]⟩, .int .i64 0, .int .i64 0, .string ⟨#[]⟩, kv], ?_, ?_, rfl⟩
  · unfold stepA
    simp only [concs, conc, h]
    rfl
  · simp only [allOne, h1]; rfl
theorem lay_ok {η : Env} {args : List AV} {h : Heap} {c : Nat} {v : AV} {h' : Heap} {c' : Nat} (he : layS args h c = some (.mk v h' c')) {σ : Sig} {w : World} {avs : List Value} (H : HR Tryz.prog σ η h c w) (ha : concs σ η args = some avs) : Calls Tryz.prog 40 avs.toArray w (Done Tryz.prog η σ h c w v h' c') := by
  unfold layS at he
  split at he
  rotate_left
  · cases he
  rename_i k n o len cap fl
  obtain ⟨kv, r0, hk, hr0, rfl⟩ := concs_cons.1 ha
  obtain ⟨sv, r1, hs, hr1, rfl⟩ := concs_cons.1 hr0
  rw [concs_nil] at hr1; cases hr1
  rw [conc_int] at hk
  subst hk
  obtain ⟨l, hl, rfl⟩ := conc_slice.1 hs
  rw [Option.bind_eq_some_iff] at he
  obtain ⟨⟨t, cs⟩, hc, he⟩ := he
  split at he
  rotate_left
  · cases he
  rename_i x ex
  obtain ⟨us, u1, u2, u3, _⟩ := H.cells hc hl
  rw [nth_eq] at ex
  obtain ⟨u, q1, q2⟩ := (concs_get u1 o).2 _ ex
  rw [conc_int] at q2
  subst q2
  have hcell := u3 _ _ q1
  have keep : ∀ {w'}, Kept (fun _ => False) w w' → Went Tryz.prog η σ h c w σ h c w' := fun k => Went.same H (fun j hj => k.block j hj (fun f => f)) k.size k.os k.tape k.output
  cases q : Nat.beq len 0 with
  | true => rw [q] at he; cases he
  | false =>
  rw [q, cond_false] at he
  have hlen : 0 < len := by
    rcases Nat.eq_zero_or_pos len with e | e
    · subst e; cases q
    · exact e
  cases q3 : (Nat.beq k 7 || (Nat.beq k 10 || Nat.beq k 12)) with
  | true =>
    rw [q3, cond_true] at he
    cases he
    simp only [Bool.or_eq_true, Nat.beq_eq] at q3
    refine Calls.mono (lay_n (k : Int) (by omega) l.blk (l.off + o) len _ x w hcell (by omega)) ?_
    rintro e w' ⟨rfl, kw⟩
    exact ⟨_, σ, rfl, step_conc (conc_nils.2 rfl) rfl, keep kw⟩
  | false =>
  rw [q3, cond_false] at he
  cases q4 : (Nat.beq k 2 || (Nat.beq k 5 || (Nat.beq k 6 || Nat.beq k 17))) with
  | true =>
    rw [q4, cond_true] at he
    cases he
    simp only [Bool.or_eq_true, Nat.beq_eq] at q4
    refine Calls.mono (lay_o (k : Int) (by omega) l.blk (l.off + o) len _ x w hcell (by omega)) ?_
    rintro e w' ⟨rfl, kw⟩
    exact ⟨_, σ, rfl, step_conc (conc_nils.2 rfl) rfl, keep kw⟩
  | false =>
  rw [q4, cond_false] at he
  cases q5 : (Nat.beq k 15 && (Nat.beq len 1 && (Nat.beq cap 1 && fl))) with
  | false => rw [q5] at he; cases he
  | true =>
  rw [q5, cond_true, fNat_eq] at he
  cases he
  simp only [Bool.and_eq_true, Nat.beq_eq] at q5
  obtain ⟨rfl, rfl, rfl, rfl⟩ := q5
  refine Calls.mono (lay_c l.blk (l.off + o) _ x w hcell (by omega)) ?_
  rintro e w' ⟨⟨o', rfl⟩, kw⟩
  have W1 := keep kw
  refine ⟨_, upd σ c ⟨l.blk, o', l.slack⟩, rfl, step_conc (conc_slice.2 ⟨_, upd_same _ _ _, ?_⟩) rfl, W1.trans (name_ok W1.rel _)⟩
  simp only [if_true, Nat.add_zero, Nat.zero_add]
  rw [show 1 + l.slack - 1 = l.slack by omega]
end Go.Proofs.YtelhdbkkigehgaaGreatDoor

/- The summaries of functions that the runs lean on. -/
namespace Go.Proofs.YtelhdbkkigehgaaGreatDoor
open Go.Eng

noncomputable section
def smV (n : Nat) : Option (List AV → Option AV) := bif Nat.beq n 205 then some namS else bif Nat.beq n 187 then some idxS else bif Nat.beq n 110 then some cntS else none
def smF (n : Nat) : Option (List AV → Heap → Nat → Option CRes) := bif Nat.beq n 55 then some copyS else bif Nat.beq n 272 then some nmsS else bif Nat.beq n 387 then some insS else bif Nat.beq n 336 then some mtkS else bif Nat.beq n 226 then some mspS else bif Nat.beq n 40 then some layS else none
def smAll : Sm := ⟨smV, smF⟩
/-- The same, and functions of a run's own. -/
def smMore (ex : Nat → Option (List AV → Heap → Nat → Option CRes)) : Sm := ⟨smV, fun n => match ex n with | some g => some g | none => smF n⟩
end

theorem mixed : Tryz.prog.follows .mixedOrders = true := by kernel_rfl
theorem noGo : NoGo Tryz.prog = true := by decide +kernel

theorem smV_ok {η : Env} (f : Nat) (g : List AV → Option AV) (h : smV f = some g) (args : List AV) (v : AV) (hv : g args = some v) (σ : Sig) (avs : List Value) (w : World) (ha : concs σ η args = some avs) : Leads Tryz.prog f avs.toArray w (fun e w' => ∃ u, e = .returned u ∧ conc σ η v = some u ∧ Eng.Kept (fun _ => False) w w') := by
  unfold smV at h
  cases e0 : Nat.beq f 205 with
  | true =>
    simp only [e0, cond_true, Option.some.injEq] at h
    subst h
    have := Nat.eq_of_beq_eq_true e0
    subst this
    exact leads_of noGo Tryz.func205 (by kernel_rfl) (nam_ok hv σ avs w ha)
  | false =>
  simp only [e0, cond_false] at h
  cases e1 : Nat.beq f 187 with
  | true =>
    simp only [e1, cond_true, Option.some.injEq] at h
    subst h
    have := Nat.eq_of_beq_eq_true e1
    subst this
    exact idx_ok hv σ avs w ha
  | false =>
  simp only [e1, cond_false] at h
  cases e2 : Nat.beq f 110 with
  | true =>
    simp only [e2, cond_true, Option.some.injEq] at h
    subst h
    have := Nat.eq_of_beq_eq_true e2
    subst this
    exact cnt_ok hv σ avs w ha
  | false =>
  simp only [e2, cond_false] at h
  cases h

theorem smF_ok {η : Env} (f : Nat) (g : List AV → Heap → Nat → Option CRes) (h : smF f = some g) (args : List AV) (hp : Heap) (c : Nat) (v : AV) (h' : Heap) (c' : Nat) (he : g args hp c = some (.mk v h' c')) (σ : Sig) (w : World) (avs : List Value) (H : HR Tryz.prog σ η hp c w) (ha : concs σ η args = some avs) : Leads Tryz.prog f avs.toArray w (Done Tryz.prog η σ hp c w v h' c') := by
  unfold smF at h
  cases e0 : Nat.beq f 55 with
  | true =>
    simp only [e0, cond_true, Option.some.injEq] at h
    subst h
    have := Nat.eq_of_beq_eq_true e0
    subst this
    exact leads_of noGo Tryz.func55 (by kernel_rfl) (copy_ok he H ha)
  | false =>
  simp only [e0, cond_false] at h
  cases e1 : Nat.beq f 272 with
  | true =>
    simp only [e1, cond_true, Option.some.injEq] at h
    subst h
    have := Nat.eq_of_beq_eq_true e1
    subst this
    exact leads_of noGo Tryz.func272 (by kernel_rfl) (nms_ok he H ha)
  | false =>
  simp only [e1, cond_false] at h
  cases e2 : Nat.beq f 387 with
  | true =>
    simp only [e2, cond_true, Option.some.injEq] at h
    subst h
    have := Nat.eq_of_beq_eq_true e2
    subst this
    exact leads_of noGo Tryz.func387 (by kernel_rfl) (ins_ok he H ha)
  | false =>
  simp only [e2, cond_false] at h
  cases e3 : Nat.beq f 336 with
  | true =>
    simp only [e3, cond_true, Option.some.injEq] at h
    subst h
    have := Nat.eq_of_beq_eq_true e3
    subst this
    exact leads_of noGo Tryz.func336 (by kernel_rfl) (mtk_ok he H ha)
  | false =>
  simp only [e3, cond_false] at h
  cases e4 : Nat.beq f 226 with
  | true =>
    simp only [e4, cond_true, Option.some.injEq] at h
    subst h
    have := Nat.eq_of_beq_eq_true e4
    subst this
    exact leads_of noGo Tryz.func226 (by kernel_rfl) (msp_ok he H ha)
  | false =>
  simp only [e4, cond_false] at h
  cases e5 : Nat.beq f 40 with
  | true =>
    simp only [e5, cond_true, Option.some.injEq] at h
    subst h
    have := Nat.eq_of_beq_eq_true e5
    subst this
    exact leads_of noGo Tryz.func40 (by kernel_rfl) (lay_ok he H ha)
  | false =>
  simp only [e5, cond_false] at h
  cases h

theorem smAll_ok {η : Env} : SmOk Tryz.prog η smAll := ⟨smV_ok, smF_ok⟩
def ExOk (η : Env) (ex : Nat → Option (List AV → Heap → Nat → Option CRes)) : Prop := ∀ f g, ex f = some g → ∀ args h c v h' c', g args h c = some (.mk v h' c') → ∀ σ w avs, HR Tryz.prog σ η h c w → concs σ η args = some avs → Leads Tryz.prog f avs.toArray w (Done Tryz.prog η σ h c w v h' c')
theorem smMore_ok {η : Env} {ex : Nat → Option (List AV → Heap → Nat → Option CRes)} (hx : ExOk η ex) : SmOk Tryz.prog η (smMore ex) := by
  refine ⟨smV_ok, fun f g hg => ?_⟩
  simp only [smMore] at hg
  cases e : ex f with
  | some g' => simp only [e, Option.some.injEq] at hg; subst hg; exact hx f g' e
  | none => simp only [e] at hg; exact smF_ok f g hg
end Go.Proofs.YtelhdbkkigehgaaGreatDoor

/- works(): the states between its parts. -/
namespace Go.Proofs.YtelhdbkkigehgaaGreatDoor
open Go.Eng
noncomputable section
def o0 : AObj := .ro 79 [.sym 3]
def o1 : AObj := .ro 496 [.int .u64 (.ofNat 1), .int .u64 (.ofNat 10), .int .u64 (.ofNat 100), .int .u64 (.ofNat 1000), .int .u64 (.ofNat 10000), .int .u64 (.ofNat 100000), .int .u64 (.ofNat 1000000), .int .u64 (.ofNat 10000000), .int .u64 (.ofNat 100000000), .int .u64 (.ofNat 1000000000), .int .u64 (.ofNat 10000000000), .int .u64 (.ofNat 100000000000), .int .u64 (.ofNat 1000000000000), .int .u64 (.ofNat 10000000000000), .int .u64 (.ofNat 100000000000000), .int .u64 (.ofNat 1000000000000000), .int .u64 (.ofNat 10000000000000000), .int .u64 (.ofNat 100000000000000000), .int .u64 (.ofNat 1000000000000000000), .int .u64 (.ofNat 10000000000000000000)]
def o2 : AObj := .cells 26 [.bool true, .nilp]
def o3 : AObj := .map [] 0
def o4 : AObj := .cells 276 [I 100000, I 0, .bool false, .map 46, .nilf, .nils]
def o5 : AObj := .map [(.str [109], .agg [.str [2, 0, 5, 1, 2, 1, 0, 0, 0, 21, 0, 5, 3], I 13], 1)] 2
def o6 : AObj := .cells 238 [.str [], .nils]
def o7 : AObj := .cells 346 [.ptr 47 0, I 0, .bool false, .slice 52 0 1 1 false, I 1, I 2, I 13]
def o8 : AObj := .cells 369 [.ptr 47 0, I 0, .bool false, I 1]
def o9 : AObj := .cells 231 [.ptr 47 0, .ptr 53 0, .ptr 107 0, .slice 131 0 1 1 true, .map 116, I 0]
def o10 : AObj := .cells 341 [.bool true, .nils]
def o11 : AObj := .cells 225 [.ptr 129 0]
def o12 : AObj := .cells 26 [.bool true, .ptr 172 0]
def o13 : AObj := .cells 132 [I 0, I 0, .ptr 47 0, .ptr 117 0]
def o14 : AObj := .cells 186 [.bool true, I 0, I 0, I 0, .str [], I 0, .bool false, I 0, I 0, .str [], I 0, .bool false, I 0, I 0, .str [], I 0, .bool false, I 0, I 0, .str [], I 0, .bool false, I 0, I 0, .str [], I 0, .bool false, I 0, I 0, .str [], I 0, .bool false, I 0, I 0, .str [], I 0, .bool false, I 0, I 0, .str [], I 0, .bool false, I 0, I 0, .str [], I 0, .bool false, I 0, I 0, .str [], I 0, .bool false, I 0, I 0, .str [], I 0, .bool false, I 0, I 0, .str [], I 0, .bool false, I 0, I 0, .str [], I 0, .bool false, I 0, I 0, .str [], I 0, .bool false, I 0, I 0, .str [], I 0, .bool false, I 0, I 0, .str [], I 0, .bool false, I 0, I 0, .str [], I 0, .bool false, I 0, I 0, .str [], I 0, .bool false, I 0, I 0, .str [], I 0, .bool false, I 0, I 0, .str [], I 0, .bool false, I 0, I 0, .str [], I 0, .bool false, I 0, I 0, .str [], I 0, .bool false, I 0, I 0, .str [], I 0, .bool false, I 0, I 0, .str [], I 0, .bool false, I 0, I 0, .str [], I 0, .bool false, I 0, I 0, .str [], I 0, .bool false, I 0, I 0, .str [], I 0, .bool false, I 0, I 0, .str [], I 0, .bool false, I 0, I 0, .str [], I 0, .bool false, I 0, I 0, .str [], I 0, .bool false, I 0, I 0, .str [], I 0, .bool false, I 0, I 0, .str [], I 0, .bool false, I 0, I 0, .str [], I 0, .bool false, I 0, I 0, .str [], I 0, .bool false, I 0, I 0, .str [], I 0, .bool false, I 0, I 0, .str [], I 0, .bool false, I 0, I 0, .str [], I 0, .bool false, I 0, I 0, .str [], I 0, .bool false, I 0, I 0, .str [], I 0, .bool false, I 0, I 0, .str [], I 0, .bool false, I 0, I 0, .str [], I 0, .bool false, I 0, I 0, .str [], I 0, .bool false, I 0, I 0, .str [], I 0, .bool false, I 0, I 0, .str [], I 0, .bool false, I 0, I 0, .str [], I 0, .bool false, I 0, I 0, .str [], I 0, .bool false, I 0, I 0, .str [], I 0, .bool false, I 0, I 0, .str [], I 0, .bool false, I 0, I 0, .str [], I 0, .bool false, I 0, I 0, .str [], I 0, .bool false, I 0, I 0, .str [], I 0, .bool false, I 0, I 0, .str [], I 0, .bool false, I 0, I 0, .str [], I 0, .bool false, I 0, I 0, .str [], I 0, .bool false, I 0, I 0, .str [], I 0, .bool false, I 0, I 0, .str [], I 0, .bool false, I 0, I 0, .str [], I 0, .bool false, I 0, I 0, .str [], I 0, .bool false, I 0, I 0, .str [], I 0, .bool false, I 0, I 0, .str [], I 0, .bool false, I 0, I 0, .str [], I 0, .bool false, I 0, I 0, .str [], I 0, .bool false, I 0, I 0, .str [], I 0, .bool false, I 0, I 0, .str [], I 0, .bool false, I 0, I 0, .str [], I 0, .bool false]
def o15 : AObj := .cells 59 [.nils]
def o16 : AObj := .cells 35 [I 0, I 0, I 0, .str [], .str [], I 0, I 0, .str []]
def o17 : AObj := .cells 106 [.slice 189 0 1 1 true, .slice 170 0 1 1 false, .slice 171 0 1 1 false, .ptr 168 0, .ptr 169 0, .nils, .nils, .nils]
def o18 : AObj := .cells 276 [I 100000, I 0, .bool false, .map 173, .nilf, .nils]
def o19 : AObj := .cells 190 [I 0, I 0, I 0, .ptr 174 0, .ptr 176 0, .ptr 187 0]
def o20 : AObj := .cells 307 [.ptr 174 0, I 0, .bool false, .nils]
def o21 : AObj := .cells 304 [.ptr 174 0, .ptr 176 0, I 0, I 0, I 0, .str [], I 0, I 0]
def o22 : AObj := .cells 120 [.ptr 175 0]
def o23 : AObj := .cells 59 [.slice 311 0 1 1 true]
def o24 : AObj := .map [(.str [108, 48], .agg [.str [2, 0, 10, 3, 1, 0, 10, 2, 1, 97, 1, 104, 0, 2, 223, 0, 220, 3], I 0], 0)] 1
def o25 : AObj := .cells 307 [.ptr 174 0, I 0, .bool false, .slice 304 0 1 1 true]
def o26 : AObj := .cells 309 [I 0, .slice 306 0 1 1 true, .slice 309 0 1 1 true]
def o27 : AObj := .cells 35 [I 3, I 1, I 0, .str [97], .str [104], I 10, I 2, .str []]
def o28 : AObj := .cells 3 [I 18]
def o29 : AObj := .cells 59 [.slice 431 0 2 2 true]
def o30 : AObj := .map [(.str [108, 48], .agg [.str [2, 0, 10, 3, 1, 0, 10, 2, 1, 97, 1, 104, 0, 2, 223, 0, 220, 3, 2, 0, 15, 3, 2, 1, 11, 1, 1, 97, 1, 104, 5, 104, 101, 108, 108, 111, 13, 140, 2, 247, 3], I 0], 0)] 1
def o31 : AObj := .cells 309 [I 0, .slice 426 0 2 2 true, .slice 429 0 2 2 true]
def o32 : AObj := .cells 35 [I 3, I 1, I 0, .str [97], .str [104], I 10, I 2, .str [], I 3, I 2, I 1, .str [97], .str [104], I 11, I 1, .str [104, 101, 108, 108, 111]]
def o33 : AObj := .cells 3 [I 18, I 41]
def o34 : AObj := .map [(.str [108, 48], .agg [.str [2, 0, 10, 3, 1, 0, 10, 2, 1, 97, 1, 104, 0, 2, 223, 0, 220, 3, 2, 0, 15, 3, 2, 1, 11, 1, 1, 97, 1, 104, 5, 104, 101, 108, 108, 111, 13, 140, 2, 247, 3], I 41], 0)] 1
def o35 : AObj := .cells 186 [.bool true, I 1, I 0, I 0, .str [], I 1, .bool false, I 0, .int .i64 (.negSucc 0), .str [66, 0, 0, 2, 10, 3, 1, 0, 10, 2, 1, 97, 1, 104, 0, 15, 3, 2, 1, 11, 1, 1, 97, 1, 104, 5, 104, 101, 108, 108, 111], I 0, .bool true, I 0, I 0, .str [], I 0, .bool false, I 0, I 0, .str [], I 0, .bool false, I 0, I 0, .str [], I 0, .bool false, I 0, I 0, .str [], I 0, .bool false, I 0, I 0, .str [], I 0, .bool false, I 0, I 0, .str [], I 0, .bool false, I 0, I 0, .str [], I 0, .bool false, I 0, I 0, .str [], I 0, .bool false, I 0, I 0, .str [], I 0, .bool false, I 0, I 0, .str [], I 0, .bool false, I 0, I 0, .str [], I 0, .bool false, I 0, I 0, .str [], I 0, .bool false, I 0, I 0, .str [], I 0, .bool false, I 0, I 0, .str [], I 0, .bool false, I 0, I 0, .str [], I 0, .bool false, I 0, I 0, .str [], I 0, .bool false, I 0, I 0, .str [], I 0, .bool false, I 0, I 0, .str [], I 0, .bool false, I 0, I 0, .str [], I 0, .bool false, I 0, I 0, .str [], I 0, .bool false, I 0, I 0, .str [], I 0, .bool false, I 0, I 0, .str [], I 0, .bool false, I 0, I 0, .str [], I 0, .bool false, I 0, I 0, .str [], I 0, .bool false, I 0, I 0, .str [], I 0, .bool false, I 0, I 0, .str [], I 0, .bool false, I 0, I 0, .str [], I 0, .bool false, I 0, I 0, .str [], I 0, .bool false, I 0, I 0, .str [], I 0, .bool false, I 0, I 0, .str [], I 0, .bool false, I 0, I 0, .str [], I 0, .bool false, I 0, I 0, .str [], I 0, .bool false, I 0, I 0, .str [], I 0, .bool false, I 0, I 0, .str [], I 0, .bool false, I 0, I 0, .str [], I 0, .bool false, I 0, I 0, .str [], I 0, .bool false, I 0, I 0, .str [], I 0, .bool false, I 0, I 0, .str [], I 0, .bool false, I 0, I 0, .str [], I 0, .bool false, I 0, I 0, .str [], I 0, .bool false, I 0, I 0, .str [], I 0, .bool false, I 0, I 0, .str [], I 0, .bool false, I 0, I 0, .str [], I 0, .bool false, I 0, I 0, .str [], I 0, .bool false, I 0, I 0, .str [], I 0, .bool false, I 0, I 0, .str [], I 0, .bool false, I 0, I 0, .str [], I 0, .bool false, I 0, I 0, .str [], I 0, .bool false, I 0, I 0, .str [], I 0, .bool false, I 0, I 0, .str [], I 0, .bool false, I 0, I 0, .str [], I 0, .bool false, I 0, I 0, .str [], I 0, .bool false, I 0, I 0, .str [], I 0, .bool false, I 0, I 0, .str [], I 0, .bool false, I 0, I 0, .str [], I 0, .bool false, I 0, I 0, .str [], I 0, .bool false, I 0, I 0, .str [], I 0, .bool false, I 0, I 0, .str [], I 0, .bool false, I 0, I 0, .str [], I 0, .bool false, I 0, I 0, .str [], I 0, .bool false, I 0, I 0, .str [], I 0, .bool false, I 0, I 0, .str [], I 0, .bool false, I 0, I 0, .str [], I 0, .bool false]
def o36 : AObj := .cells 304 [.ptr 174 0, .ptr 176 0, I 0, I 0, I 0, .str [66, 0, 0, 2, 10, 3, 1, 0, 10, 2, 1, 97, 1, 104, 0, 15, 3, 2, 1, 11, 1, 1, 97, 1, 104, 5, 104, 101, 108, 108, 111], I 2, I 0]
def o37 : AObj := .cells 250 [.str [115, 0, 0, 0, 0, 0, 0, 0, 3, 0, 0, 0, 0, 0, 0, 0, 1], I 0, .str [3, 1, 0, 10, 2, 1, 97, 1, 104, 0], .str [120, 97, 0, 104, 0, 0, 0, 0, 0, 0, 0, 0, 10, 0, 0, 0, 0, 0, 0, 0, 3, 0, 0, 0, 0, 0, 0, 0, 1], I 0, .str [], .str [115, 0, 0, 0, 0, 0, 0, 0, 3, 0, 0, 0, 0, 0, 0, 0, 2], I 0, .str [3, 2, 1, 11, 1, 1, 97, 1, 104, 5, 104, 101, 108, 108, 111], .str [120, 97, 0, 104, 0, 0, 0, 0, 0, 0, 0, 0, 11, 0, 0, 0, 0, 0, 0, 0, 3, 0, 0, 0, 0, 0, 0, 0, 2], I 0, .str []]
def o38 : AObj := .map [(.str [109], .agg [.str [2, 0, 5, 1, 2, 1, 0, 0, 0, 21, 0, 5, 3], I 13], 1), (.str [106, 49], .agg [.str [2, 0, 129, 17, 115, 0, 0, 0, 0, 0, 0, 0, 3, 0, 0, 0, 0, 0, 0, 0, 1, 1, 10, 3, 1, 0, 10, 2, 1, 97, 1, 104, 0, 29, 120, 97, 0, 104, 0, 0, 0, 0, 0, 0, 0, 0, 10, 0, 0, 0, 0, 0, 0, 0, 3, 0, 0, 0, 0, 0, 0, 0, 1, 2, 0, 17, 115, 0, 0, 0, 0, 0, 0, 0, 3, 0, 0, 0, 0, 0, 0, 0, 2, 3, 15, 3, 2, 1, 11, 1, 1, 97, 1, 104, 5, 104, 101, 108, 108, 111, 29, 120, 97, 0, 104, 0, 0, 0, 0, 0, 0, 0, 0, 11, 0, 0, 0, 0, 0, 0, 0, 3, 0, 0, 0, 0, 0, 0, 0, 2, 4, 0, 231, 1, 7, 224, 3], I 137], 2)] 3
def o39 : AObj := .cells 231 [.ptr 47 0, .ptr 53 0, .ptr 107 0, .slice 131 0 1 1 true, .map 116, I 4]
def o40 : AObj := .cells 341 [.bool true, .slice 1035 0 1 1 false]
def o41 : AObj := .cells 342 [.slice 1155 0 4 4 true]
def o42 : AObj := .cells 250 [.str [115, 0, 0, 0, 0, 0, 0, 0, 3, 0, 0, 0, 0, 0, 0, 0, 1], I 1, .str [3, 1, 0, 10, 2, 1, 97, 1, 104, 0], .str [115, 0, 0, 0, 0, 0, 0, 0, 3, 0, 0, 0, 0, 0, 0, 0, 2], I 3, .str [3, 2, 1, 11, 1, 1, 97, 1, 104, 5, 104, 101, 108, 108, 111], .str [120, 97, 0, 104, 0, 0, 0, 0, 0, 0, 0, 0, 10, 0, 0, 0, 0, 0, 0, 0, 3, 0, 0, 0, 0, 0, 0, 0, 1], I 2, .str [], .str [120, 97, 0, 104, 0, 0, 0, 0, 0, 0, 0, 0, 11, 0, 0, 0, 0, 0, 0, 0, 3, 0, 0, 0, 0, 0, 0, 0, 2], I 4, .str []]
def o43 : AObj := .cells 181 [.int .i64 (.negSucc 0), I 0, .str [65, 0, 0, 2]]
def o44 : AObj := .cells 186 [.bool true, I 1, I 0, I 0, .str [], I 1, .bool false, .int .i64 (.negSucc 0), I 0, .str [65, 0, 0, 2], I 0, .bool true, I 0, I 0, .str [], I 0, .bool false, I 0, I 0, .str [], I 0, .bool false, I 0, I 0, .str [], I 0, .bool false, I 0, I 0, .str [], I 0, .bool false, I 0, I 0, .str [], I 0, .bool false, I 0, I 0, .str [], I 0, .bool false, I 0, I 0, .str [], I 0, .bool false, I 0, I 0, .str [], I 0, .bool false, I 0, I 0, .str [], I 0, .bool false, I 0, I 0, .str [], I 0, .bool false, I 0, I 0, .str [], I 0, .bool false, I 0, I 0, .str [], I 0, .bool false, I 0, I 0, .str [], I 0, .bool false, I 0, I 0, .str [], I 0, .bool false, I 0, I 0, .str [], I 0, .bool false, I 0, I 0, .str [], I 0, .bool false, I 0, I 0, .str [], I 0, .bool false, I 0, I 0, .str [], I 0, .bool false, I 0, I 0, .str [], I 0, .bool false, I 0, I 0, .str [], I 0, .bool false, I 0, I 0, .str [], I 0, .bool false, I 0, I 0, .str [], I 0, .bool false, I 0, I 0, .str [], I 0, .bool false, I 0, I 0, .str [], I 0, .bool false, I 0, I 0, .str [], I 0, .bool false, I 0, I 0, .str [], I 0, .bool false, I 0, I 0, .str [], I 0, .bool false, I 0, I 0, .str [], I 0, .bool false, I 0, I 0, .str [], I 0, .bool false, I 0, I 0, .str [], I 0, .bool false, I 0, I 0, .str [], I 0, .bool false, I 0, I 0, .str [], I 0, .bool false, I 0, I 0, .str [], I 0, .bool false, I 0, I 0, .str [], I 0, .bool false, I 0, I 0, .str [], I 0, .bool false, I 0, I 0, .str [], I 0, .bool false, I 0, I 0, .str [], I 0, .bool false, I 0, I 0, .str [], I 0, .bool false, I 0, I 0, .str [], I 0, .bool false, I 0, I 0, .str [], I 0, .bool false, I 0, I 0, .str [], I 0, .bool false, I 0, I 0, .str [], I 0, .bool false, I 0, I 0, .str [], I 0, .bool false, I 0, I 0, .str [], I 0, .bool false, I 0, I 0, .str [], I 0, .bool false, I 0, I 0, .str [], I 0, .bool false, I 0, I 0, .str [], I 0, .bool false, I 0, I 0, .str [], I 0, .bool false, I 0, I 0, .str [], I 0, .bool false, I 0, I 0, .str [], I 0, .bool false, I 0, I 0, .str [], I 0, .bool false, I 0, I 0, .str [], I 0, .bool false, I 0, I 0, .str [], I 0, .bool false, I 0, I 0, .str [], I 0, .bool false, I 0, I 0, .str [], I 0, .bool false, I 0, I 0, .str [], I 0, .bool false, I 0, I 0, .str [], I 0, .bool false, I 0, I 0, .str [], I 0, .bool false, I 0, I 0, .str [], I 0, .bool false, I 0, I 0, .str [], I 0, .bool false, I 0, I 0, .str [], I 0, .bool false, I 0, I 0, .str [], I 0, .bool false, I 0, I 0, .str [], I 0, .bool false]
def o45 : AObj := .cells 106 [.slice 189 0 1 1 true, .slice 170 0 1 1 false, .slice 171 0 1 1 false, .ptr 168 0, .ptr 169 0, .slice 1213 0 1 1 true, .nils, .nils]
def o46 : AObj := .cells 224 [I 0, I 0, .slice 1209 0 2 2 true, I 0]
def o47 : AObj := .map [(.str [108, 48], .agg [.str [2, 0, 10, 3, 1, 0, 10, 2, 1, 97, 1, 104, 0, 2, 223, 0, 220, 3, 2, 0, 15, 3, 2, 1, 11, 1, 1, 97, 1, 104, 5, 104, 101, 108, 108, 111, 13, 140, 2, 247, 3], I 41], 0), (.str [99, 117, 114, 115, 111, 114], .agg [.str [67, 2, 0], I 3], 2)] 3
def o48 : AObj := .cells 304 [.ptr 174 0, .ptr 176 0, I 0, I 2, I 0, .str [], I 0, I 0]
def o49 : AObj := .cells 3 [I 3]
def o50 : AObj := .map [(.str [109], .agg [.str [2, 0, 5, 1, 2, 1, 0, 0, 0, 21, 0, 5, 3], I 13], 1), (.str [106, 49], .agg [.str [2, 0, 129, 17, 115, 0, 0, 0, 0, 0, 0, 0, 3, 0, 0, 0, 0, 0, 0, 0, 1, 1, 10, 3, 1, 0, 10, 2, 1, 97, 1, 104, 0, 29, 120, 97, 0, 104, 0, 0, 0, 0, 0, 0, 0, 0, 10, 0, 0, 0, 0, 0, 0, 0, 3, 0, 0, 0, 0, 0, 0, 0, 1, 2, 0, 17, 115, 0, 0, 0, 0, 0, 0, 0, 3, 0, 0, 0, 0, 0, 0, 0, 2, 3, 15, 3, 2, 1, 11, 1, 1, 97, 1, 104, 5, 104, 101, 108, 108, 111, 29, 120, 97, 0, 104, 0, 0, 0, 0, 0, 0, 0, 0, 11, 0, 0, 0, 0, 0, 0, 0, 3, 0, 0, 0, 0, 0, 0, 0, 2, 4, 0, 231, 1, 7, 224, 3], I 137], 2), (.str [116, 50], .agg [.str [4, 0, 17, 115, 0, 0, 0, 0, 0, 0, 0, 3, 0, 0, 0, 0, 0, 0, 0, 1, 1, 10, 3, 1, 0, 10, 2, 1, 97, 1, 104, 0, 16, 1, 2, 3, 15, 3, 2, 1, 11, 1, 1, 97, 1, 104, 5, 104, 101, 108, 108, 111, 0, 29, 120, 97, 0, 104, 0, 0, 0, 0, 0, 0, 0, 0, 10, 0, 0, 0, 0, 0, 0, 0, 3, 0, 0, 0, 0, 0, 0, 0, 1, 2, 0, 12, 17, 11, 0, 0, 0, 0, 0, 0, 0, 3, 0, 0, 0, 0, 0, 0, 0, 2, 4, 0, 129, 120, 6, 45, 1, 17, 115, 0, 0, 0, 0, 0, 0, 0, 3, 0, 0, 0, 0, 0, 0, 0, 1, 106, 10, 11, 0, 244, 0, 0, 0, 0, 0, 0, 0, 110, 0, 0, 0, 0, 0, 0, 0, 4, 115, 112, 111, 111, 114], I 155], 4)] 5
def o51 : AObj := .map [(I 2, .ptr 2177 0, 0)] 1
def o52 : AObj := .cells 513 [.slice 2232 0 1 1 true]
def o53 : AObj := .cells 464 [.str [115, 0, 0, 0, 0, 0, 0, 0, 3, 0, 0, 0, 0, 0, 0, 0, 1], .slice 2230 0 4 4 true]
def o54 : AObj := .map [(.str [109], .agg [.str [2, 0, 5, 1, 2, 1, 0, 0, 0, 21, 0, 5, 3, 2, 0, 6, 1, 1, 0, 2, 0, 0, 0, 23, 0, 5, 3], I 27], 1), (.str [106, 49], .agg [.str [2, 0, 129, 17, 115, 0, 0, 0, 0, 0, 0, 0, 3, 0, 0, 0, 0, 0, 0, 0, 1, 1, 10, 3, 1, 0, 10, 2, 1, 97, 1, 104, 0, 29, 120, 97, 0, 104, 0, 0, 0, 0, 0, 0, 0, 0, 10, 0, 0, 0, 0, 0, 0, 0, 3, 0, 0, 0, 0, 0, 0, 0, 1, 2, 0, 17, 115, 0, 0, 0, 0, 0, 0, 0, 3, 0, 0, 0, 0, 0, 0, 0, 2, 3, 15, 3, 2, 1, 11, 1, 1, 97, 1, 104, 5, 104, 101, 108, 108, 111, 29, 120, 97, 0, 104, 0, 0, 0, 0, 0, 0, 0, 0, 11, 0, 0, 0, 0, 0, 0, 0, 3, 0, 0, 0, 0, 0, 0, 0, 2, 4, 0, 231, 1, 7, 224, 3], I 137], 2), (.str [116, 50], .agg [.str [4, 0, 17, 115, 0, 0, 0, 0, 0, 0, 0, 3, 0, 0, 0, 0, 0, 0, 0, 1, 1, 10, 3, 1, 0, 10, 2, 1, 97, 1, 104, 0, 16, 1, 2, 3, 15, 3, 2, 1, 11, 1, 1, 97, 1, 104, 5, 104, 101, 108, 108, 111, 0, 29, 120, 97, 0, 104, 0, 0, 0, 0, 0, 0, 0, 0, 10, 0, 0, 0, 0, 0, 0, 0, 3, 0, 0, 0, 0, 0, 0, 0, 1, 2, 0, 12, 17, 11, 0, 0, 0, 0, 0, 0, 0, 3, 0, 0, 0, 0, 0, 0, 0, 2, 4, 0, 129, 120, 6, 45, 1, 17, 115, 0, 0, 0, 0, 0, 0, 0, 3, 0, 0, 0, 0, 0, 0, 0, 1, 106, 10, 11, 0, 244, 0, 0, 0, 0, 0, 0, 0, 110, 0, 0, 0, 0, 0, 0, 0, 4, 115, 112, 111, 111, 114], I 155], 4)] 5
def o55 : AObj := .cells 346 [.ptr 47 0, I 0, .bool false, .slice 2269 0 1 1 false, I 1, I 3, I 27]
def o56 : AObj := .cells 225 [.ptr 2328 0]
def o57 : AObj := .cells 238 [.str [], .slice 2272 0 1 1 true]
def o58 : AObj := .cells 3 [I 2]
def o59 : AObj := .map [(.str [109], .agg [.str [2, 0, 5, 1, 2, 1, 0, 0, 0, 21, 0, 5, 3, 2, 0, 6, 1, 1, 0, 2, 0, 0, 0, 23, 0, 5, 3, 2, 0, 35, 1, 3, 0, 0, 0, 29, 120, 97, 0, 104, 0, 0, 0, 0, 0, 0, 0, 0, 10, 0, 0, 0, 0, 0, 0, 0, 3, 0, 0, 0, 0, 0, 0, 0, 1, 39, 156, 1, 113, 3], I 70], 1), (.str [106, 49], .agg [.str [2, 0, 129, 17, 115, 0, 0, 0, 0, 0, 0, 0, 3, 0, 0, 0, 0, 0, 0, 0, 1, 1, 10, 3, 1, 0, 10, 2, 1, 97, 1, 104, 0, 29, 120, 97, 0, 104, 0, 0, 0, 0, 0, 0, 0, 0, 10, 0, 0, 0, 0, 0, 0, 0, 3, 0, 0, 0, 0, 0, 0, 0, 1, 2, 0, 17, 115, 0, 0, 0, 0, 0, 0, 0, 3, 0, 0, 0, 0, 0, 0, 0, 2, 3, 15, 3, 2, 1, 11, 1, 1, 97, 1, 104, 5, 104, 101, 108, 108, 111, 29, 120, 97, 0, 104, 0, 0, 0, 0, 0, 0, 0, 0, 11, 0, 0, 0, 0, 0, 0, 0, 3, 0, 0, 0, 0, 0, 0, 0, 2, 4, 0, 231, 1, 7, 224, 3], I 137], 2), (.str [116, 50], .agg [.str [4, 0, 17, 115, 0, 0, 0, 0, 0, 0, 0, 3, 0, 0, 0, 0, 0, 0, 0, 1, 1, 10, 3, 1, 0, 10, 2, 1, 97, 1, 104, 0, 16, 1, 2, 3, 15, 3, 2, 1, 11, 1, 1, 97, 1, 104, 5, 104, 101, 108, 108, 111, 0, 29, 120, 97, 0, 104, 0, 0, 0, 0, 0, 0, 0, 0, 10, 0, 0, 0, 0, 0, 0, 0, 3, 0, 0, 0, 0, 0, 0, 0, 1, 2, 0, 12, 17, 11, 0, 0, 0, 0, 0, 0, 0, 3, 0, 0, 0, 0, 0, 0, 0, 2, 4, 0, 129, 120, 6, 45, 1, 17, 115, 0, 0, 0, 0, 0, 0, 0, 3, 0, 0, 0, 0, 0, 0, 0, 1, 106, 10, 11, 0, 244, 0, 0, 0, 0, 0, 0, 0, 110, 0, 0, 0, 0, 0, 0, 0, 4, 115, 112, 111, 111, 114], I 155], 4)] 5
def o60 : AObj := .cells 346 [.ptr 47 0, I 0, .bool false, .slice 2564 0 2 2 false, I 1, I 3, I 70]
def o61 : AObj := .cells 231 [.ptr 47 0, .ptr 53 0, .ptr 107 0, .slice 2612 0 2 2 true, .map 116, I 4]
def o62 : AObj := .cells 238 [.str [], .slice 2567 0 1 1 true, .str [120, 97, 0, 104, 0, 0, 0, 0, 0, 0, 0, 0, 10, 0, 0, 0, 0, 0, 0, 0, 3, 0, 0, 0, 0, 0, 0, 0, 1], .slice 2570 0 1 1 true]
def o63 : AObj := .cells 225 [.ptr 2599 0, .ptr 2605 0]
def o64 : AObj := .cells 3 [I 3, I 0]
def o65 : AObj := .cells 276 [I 100000, I 0, .bool true, .map 46, .nilf, .nils]
def o66 : AObj := .cells 132 [I 0, I 0, .ptr 47 0, .nilp]
def o67 : AObj := .cells 276 [I 100000, I 1, .bool false, .map 46, .nilf, .nils]
def o68 : AObj := .cells 346 [.ptr 47 0, I 1, .bool false, .slice 3834 0 2 2 false, I 1, I 3, I 70]
def o69 : AObj := .cells 238 [.str [], .slice 3837 0 1 1 true, .str [120, 97, 0, 104, 0, 0, 0, 0, 0, 0, 0, 0, 10, 0, 0, 0, 0, 0, 0, 0, 3, 0, 0, 0, 0, 0, 0, 0, 1], .slice 3840 0 1 1 true]
def o70 : AObj := .cells 369 [.ptr 47 0, I 1, .bool false, I 1]
def o71 : AObj := .cells 231 [.ptr 47 0, .ptr 3700 0, .ptr 3859 0, .slice 3946 0 2 2 true, .map 3922, I 0]
def o72 : AObj := .cells 225 [.ptr 3941 0, .ptr 3944 0]
def o73 : AObj := .map [(I 2, .ptr 4022 0, 0)] 1
def o74 : AObj := .cells 231 [.ptr 47 0, .ptr 3700 0, .ptr 3859 0, .slice 3946 0 2 2 true, .map 3922, I 4]
def o75 : AObj := .cells 513 [.slice 4077 0 1 1 true]
def o76 : AObj := .cells 464 [.str [115, 0, 0, 0, 0, 0, 0, 0, 3, 0, 0, 0, 0, 0, 0, 0, 1], .slice 4075 0 4 4 true]
def o77 : AObj := .cells 341 [.bool true, .slice 4119 0 1 1 false]
def o78 : AObj := .cells 341 [.bool true, .slice 4149 0 1 1 false]
def o79 : AObj := .cells 342 [.slice 4193 0 2 2 true]
def o80 : AObj := .cells 342 [.slice 4235 0 2 2 true]
def o81 : AObj := .cells 250 [.str [115, 0, 0, 0, 0, 0, 0, 0, 3, 0, 0, 0, 0, 0, 0, 0, 1], I 1, .str [3, 1, 0, 10, 2, 1, 97, 1, 104, 0], .str [115, 0, 0, 0, 0, 0, 0, 0, 3, 0, 0, 0, 0, 0, 0, 0, 2], I 3, .str [3, 2, 1, 11, 1, 1, 97, 1, 104, 5, 104, 101, 108, 108, 111]]
def o82 : AObj := .cells 250 [.str [120, 97, 0, 104, 0, 0, 0, 0, 0, 0, 0, 0, 10, 0, 0, 0, 0, 0, 0, 0, 3, 0, 0, 0, 0, 0, 0, 0, 1], I 2, .str [], .str [120, 97, 0, 104, 0, 0, 0, 0, 0, 0, 0, 0, 11, 0, 0, 0, 0, 0, 0, 0, 3, 0, 0, 0, 0, 0, 0, 0, 2], I 4, .str []]
def o83 : AObj := .cells 132 [I 0, I 0, .ptr 47 0, .ptr 3923 0]
def e0 : Memo := ⟨[.ptr 9 0, .str [116, 105, 99, 107, 32, 48]], 15, [(3, o0), (5, o1), (9, o2)], .tup [.str [], I 4], [(3, o0), (5, o1), (9, o2)], 27⟩
def e1 : Memo := ⟨[.ptr 9 0, .str [104, 111, 115, 116, 115, 32, 48, 32, 57]], 29, [(3, o0), (5, o1), (9, o2)], .tup [.str [], I 2], [(3, o0), (5, o1), (9, o2)], 36⟩
def e2 : Memo := ⟨[.ptr 47 0], 48, [(3, o0), (5, o1), (46, o3), (47, o4)], .tup [.ptr 53 0, I 0], [(3, o0), (5, o1), (46, o5), (47, o4), (52, o6), (53, o7)], 96⟩
def e3 : Memo := ⟨[.ptr 47 0], 48, [(3, o0), (5, o1), (46, o3), (47, o4)], .tup [.ptr 117 0, I 0], [(3, o0), (5, o1), (46, o5), (47, o4), (52, o6), (53, o7), (107, o8), (116, o3), (117, o9), (129, o10), (131, o11)], 168⟩
def e4 : Memo := ⟨[.ptr 9 0, .str [104, 111, 115, 116, 115, 32, 49, 32, 49, 48, 48, 48, 48, 48]], 38, [(3, o0), (5, o1), (9, o2)], .tup [.str [111, 107, 10], I 0], [(3, o0), (5, o1), (9, o12), (46, o5), (47, o4), (52, o6), (53, o7), (107, o8), (116, o3), (117, o9), (129, o10), (131, o11), (168, o13), (169, o14), (170, o15), (171, o16), (172, o17), (173, o3), (174, o18), (175, o19), (176, o20), (187, o21), (189, o22)], 190⟩
def e5 : Memo := ⟨[.ptr 9 0, .str [108, 111, 103, 32, 48, 32, 51, 32, 49, 32, 48, 32, 97, 32, 104, 32, 49, 48, 32, 50, 32, 45]], 191, [(3, o0), (5, o1), (9, o12), (46, o5), (47, o4), (52, o6), (53, o7), (107, o8), (116, o3), (117, o9), (129, o10), (131, o11), (168, o13), (169, o14), (170, o15), (171, o16), (172, o17), (173, o3), (174, o18), (175, o19), (176, o20), (187, o21), (189, o22)], .tup [.str [111, 107, 10], I 0], [(3, o0), (5, o1), (9, o12), (46, o5), (47, o4), (52, o6), (53, o7), (107, o8), (116, o3), (117, o9), (129, o10), (131, o11), (168, o13), (169, o14), (170, o23), (171, o16), (172, o17), (173, o24), (174, o18), (175, o19), (176, o25), (187, o21), (189, o22), (304, o26), (306, o27), (309, o28), (311, o27)], 312⟩
def e6 : Memo := ⟨[.ptr 9 0, .str [108, 111, 103, 32, 48, 32, 51, 32, 50, 32, 49, 32, 97, 32, 104, 32, 49, 49, 32, 49, 32, 104, 101, 108, 108, 111]], 313, [(3, o0), (5, o1), (9, o12), (46, o5), (47, o4), (52, o6), (53, o7), (107, o8), (116, o3), (117, o9), (129, o10), (131, o11), (168, o13), (169, o14), (170, o23), (171, o16), (172, o17), (173, o24), (174, o18), (175, o19), (176, o25), (187, o21), (189, o22), (304, o26), (306, o27), (309, o28), (311, o27)], .tup [.str [111, 107, 10], I 0], [(3, o0), (5, o1), (9, o12), (46, o5), (47, o4), (52, o6), (53, o7), (107, o8), (116, o3), (117, o9), (129, o10), (131, o11), (168, o13), (169, o14), (170, o29), (171, o16), (172, o17), (173, o30), (174, o18), (175, o19), (176, o25), (187, o21), (189, o22), (304, o31), (426, o32), (429, o33), (431, o32)], 432⟩
def e7 : Memo := ⟨[.ptr 9 0, .str [115, 121, 110, 99, 32, 48]], 433, [(3, o0), (5, o1), (9, o12), (46, o5), (47, o4), (52, o6), (53, o7), (107, o8), (116, o3), (117, o9), (129, o10), (131, o11), (168, o13), (169, o14), (170, o29), (171, o16), (172, o17), (173, o30), (174, o18), (175, o19), (176, o25), (187, o21), (189, o22), (304, o31), (426, o32), (429, o33), (431, o32)], .tup [.str [111, 107, 10], I 0], [(3, o0), (5, o1), (9, o12), (46, o5), (47, o4), (52, o6), (53, o7), (107, o8), (116, o3), (117, o9), (129, o10), (131, o11), (168, o13), (169, o14), (170, o29), (171, o16), (172, o17), (173, o34), (174, o18), (175, o19), (176, o25), (187, o21), (189, o22), (304, o31), (426, o32), (429, o33), (431, o32)], 457⟩
def e8 : Memo := ⟨[.ptr 9 0, .str [100, 97, 101, 109, 111, 110, 32, 48]], 458, [(3, o0), (5, o1), (9, o12), (46, o5), (47, o4), (52, o6), (53, o7), (107, o8), (116, o3), (117, o9), (129, o10), (131, o11), (168, o13), (169, o14), (170, o29), (171, o16), (172, o17), (173, o34), (174, o18), (175, o19), (176, o25), (187, o21), (189, o22), (304, o31), (426, o32), (429, o33), (431, o32)], .tup [.str [111, 107, 10], I 0], [(3, o0), (5, o1), (9, o12), (46, o5), (47, o4), (52, o6), (53, o7), (107, o8), (116, o3), (117, o9), (129, o10), (131, o11), (168, o13), (169, o35), (170, o29), (171, o16), (172, o17), (173, o34), (174, o18), (175, o19), (176, o25), (187, o36), (189, o22), (304, o31), (426, o32), (429, o33), (431, o32)], 577⟩
def e9 : Memo := ⟨[.ptr 9 0, .str [109, 97, 105, 108]], 578, [(3, o0), (5, o1), (9, o12), (46, o5), (47, o4), (52, o6), (53, o7), (107, o8), (116, o3), (117, o9), (129, o10), (131, o11), (168, o13), (169, o35), (170, o29), (171, o16), (172, o17), (173, o34), (174, o18), (175, o19), (176, o25), (187, o36), (189, o22), (304, o31), (426, o32), (429, o33), (431, o32)], .tup [.str [109, 97, 105, 108, 32, 49, 10], I 0], [(3, o0), (5, o1), (9, o12), (46, o5), (47, o4), (52, o6), (53, o7), (107, o8), (116, o3), (117, o9), (129, o10), (131, o11), (168, o13), (169, o35), (170, o29), (171, o16), (172, o17), (173, o34), (174, o18), (175, o19), (176, o25), (187, o36), (189, o22), (304, o31), (426, o32), (429, o33), (431, o32)], 584⟩
def e10 : Memo := ⟨[.ptr 117 0, .slice 901 0 4 4 true], 902, [(3, o0), (5, o1), (46, o5), (47, o4), (52, o6), (53, o7), (107, o8), (116, o3), (117, o9), (129, o10), (131, o11), (901, o37)], I 0, [(3, o0), (5, o1), (46, o38), (47, o4), (52, o6), (53, o7), (107, o8), (116, o3), (117, o39), (129, o40), (131, o11), (901, o37), (1035, o41), (1155, o42)], 1156⟩
def e11 : Memo := ⟨[.ptr 168 0, .agg [I 0, .int .i64 (.negSucc 0), .str [66, 0, 0, 2, 10, 3, 1, 0, 10, 2, 1, 97, 1, 104, 0, 15, 3, 2, 1, 11, 1, 1, 97, 1, 104, 5, 104, 101, 108, 108, 111]]], 606, [(3, o0), (5, o1), (46, o5), (47, o4), (52, o6), (53, o7), (107, o8), (116, o3), (117, o9), (129, o10), (131, o11), (168, o13)], .tup [.slice 1162 0 1 1 false, I 0], [(3, o0), (5, o1), (46, o38), (47, o4), (52, o6), (53, o7), (107, o8), (116, o3), (117, o39), (129, o40), (131, o11), (168, o13), (1035, o41), (1155, o42), (1162, o43)], 1163⟩
def e12 : Memo := ⟨[.ptr 9 0, .str [100, 101, 108, 105, 118, 101, 114, 32, 48]], 585, [(3, o0), (5, o1), (9, o12), (46, o5), (47, o4), (52, o6), (53, o7), (107, o8), (116, o3), (117, o9), (129, o10), (131, o11), (168, o13), (169, o35), (170, o29), (171, o16), (172, o17), (173, o34), (174, o18), (175, o19), (176, o25), (187, o36), (189, o22), (304, o31), (426, o32), (429, o33), (431, o32)], .tup [.str [111, 107, 10], I 0], [(3, o0), (5, o1), (9, o12), (46, o38), (47, o4), (52, o6), (53, o7), (107, o8), (116, o3), (117, o39), (129, o40), (131, o11), (168, o13), (169, o44), (170, o29), (171, o16), (172, o45), (173, o34), (174, o18), (175, o19), (176, o25), (187, o36), (189, o22), (304, o31), (426, o32), (429, o33), (431, o32), (1035, o41), (1155, o42), (1209, o32), (1213, o46)], 1214⟩
def e13 : Memo := ⟨[.ptr 9 0, .str [100, 101, 108, 105, 118, 101, 114, 32, 48]], 1215, [(3, o0), (5, o1), (9, o12), (46, o38), (47, o4), (52, o6), (53, o7), (107, o8), (116, o3), (117, o39), (129, o40), (131, o11), (168, o13), (169, o44), (170, o29), (171, o16), (172, o45), (173, o34), (174, o18), (175, o19), (176, o25), (187, o36), (189, o22), (304, o31), (426, o32), (429, o33), (431, o32), (1035, o41), (1155, o42), (1209, o32), (1213, o46)], .tup [.str [111, 107, 10], I 0], [(3, o0), (5, o1), (9, o12), (46, o38), (47, o4), (52, o6), (53, o7), (107, o8), (116, o3), (117, o39), (129, o40), (131, o11), (168, o13), (169, o14), (170, o29), (171, o16), (172, o45), (173, o47), (174, o18), (175, o19), (176, o25), (187, o48), (189, o22), (304, o31), (426, o32), (429, o33), (431, o32), (1035, o41), (1155, o42), (1209, o32), (1213, o46)], 1266⟩
def e14 : Memo := ⟨[.ptr 9 0, .str [99, 117, 114, 115, 111, 114, 32, 48]], 1267, [(3, o0), (5, o1), (9, o12), (46, o38), (47, o4), (52, o6), (53, o7), (107, o8), (116, o3), (117, o39), (129, o40), (131, o11), (168, o13), (169, o14), (170, o29), (171, o16), (172, o45), (173, o47), (174, o18), (175, o19), (176, o25), (187, o48), (189, o22), (304, o31), (426, o32), (429, o33), (431, o32), (1035, o41), (1155, o42), (1209, o32), (1213, o46)], .tup [.str [99, 117, 114, 115, 111, 114, 32, 50, 32, 48, 32, 108, 111, 103, 32, 48, 32, 50, 32, 50, 10], I 0], [(3, o0), (5, o1), (9, o12), (46, o38), (47, o4), (52, o6), (53, o7), (107, o8), (116, o3), (117, o39), (129, o40), (131, o11), (168, o13), (169, o14), (170, o29), (171, o16), (172, o45), (173, o47), (174, o18), (175, o19), (176, o25), (187, o48), (189, o22), (304, o31), (426, o32), (429, o33), (431, o32), (1035, o41), (1155, o42), (1209, o32), (1213, o46)], 1283⟩
def e15 : Memo := ⟨[.ptr 117 0, I 3, I 0], 1292, [(3, o0), (5, o1), (46, o38), (47, o4), (52, o6), (53, o7), (107, o8), (116, o3), (117, o39), (129, o40), (131, o11), (1035, o41), (1155, o42)], .tup [.agg [I 3, .slice 1441 0 2 2 true], I 0], [(3, o0), (5, o1), (46, o38), (47, o4), (52, o6), (53, o7), (107, o8), (116, o3), (117, o39), (129, o40), (131, o11), (1035, o41), (1155, o42), (1441, o32)], 1442⟩
def e16 : Memo := ⟨[.ptr 9 0, .str [103, 101, 116, 32, 51]], 1284, [(3, o0), (5, o1), (9, o12), (46, o38), (47, o4), (52, o6), (53, o7), (107, o8), (116, o3), (117, o39), (129, o40), (131, o11), (168, o13), (169, o14), (170, o29), (171, o16), (172, o45), (173, o47), (174, o18), (175, o19), (176, o25), (187, o48), (189, o22), (304, o31), (426, o32), (429, o33), (431, o32), (1035, o41), (1155, o42), (1209, o32), (1213, o46)], .tup [.str [116, 114, 97, 99, 101, 32, 51, 32, 50, 10, 115, 112, 97, 110, 32, 51, 32, 49, 32, 48, 32, 97, 32, 104, 32, 49, 48, 32, 50, 32, 45, 10, 115, 112, 97, 110, 32, 51, 32, 50, 32, 49, 32, 97, 32, 104, 32, 49, 49, 32, 49, 32, 104, 101, 108, 108, 111, 10], I 0], [(3, o0), (5, o1), (9, o12), (46, o38), (47, o4), (52, o6), (53, o7), (107, o8), (116, o3), (117, o39), (129, o40), (131, o11), (168, o13), (169, o14), (170, o29), (171, o16), (172, o45), (173, o47), (174, o18), (175, o19), (176, o25), (187, o48), (189, o22), (304, o31), (426, o32), (429, o33), (431, o32), (1035, o41), (1155, o42), (1209, o32), (1213, o46)], 1455⟩
def e17 : Memo := ⟨[.ptr 117 0, I 3, I 0], 1465, [(3, o0), (5, o1), (46, o38), (47, o4), (52, o6), (53, o7), (107, o8), (116, o3), (117, o39), (129, o40), (131, o11), (1035, o41), (1155, o42)], .tup [.agg [I 3, .slice 1614 0 2 2 true], I 0], [(3, o0), (5, o1), (46, o38), (47, o4), (52, o6), (53, o7), (107, o8), (116, o3), (117, o39), (129, o40), (131, o11), (1035, o41), (1155, o42), (1614, o32)], 1615⟩
def e18 : Memo := ⟨[.ptr 9 0, .str [116, 114, 101, 101, 32, 51]], 1456, [(3, o0), (5, o1), (9, o12), (46, o38), (47, o4), (52, o6), (53, o7), (107, o8), (116, o3), (117, o39), (129, o40), (131, o11), (168, o13), (169, o14), (170, o29), (171, o16), (172, o45), (173, o47), (174, o18), (175, o19), (176, o25), (187, o48), (189, o22), (304, o31), (426, o32), (429, o33), (431, o32), (1035, o41), (1155, o42), (1209, o32), (1213, o46)], .tup [.str [114, 111, 111, 116, 32, 48, 32, 51, 32, 49, 32, 48, 32, 97, 32, 104, 32, 49, 48, 32, 50, 32, 45, 10, 107, 105, 100, 32, 49, 32, 51, 32, 50, 32, 49, 32, 97, 32, 104, 32, 49, 49, 32, 49, 32, 104, 101, 108, 108, 111, 10, 101, 110, 100, 10], I 0], [(3, o0), (5, o1), (9, o12), (46, o38), (47, o4), (52, o6), (53, o7), (107, o8), (116, o3), (117, o39), (129, o40), (131, o11), (168, o13), (169, o14), (170, o29), (171, o16), (172, o45), (173, o47), (174, o18), (175, o19), (176, o25), (187, o48), (189, o22), (304, o31), (426, o32), (429, o33), (431, o32), (1035, o41), (1155, o42), (1209, o32), (1213, o46)], 1677⟩
def e19 : Memo := ⟨[.ptr 117 0, .agg [.str [97], .str [104], I 11, I 20, I 5], I 0], 1692, [(3, o0), (5, o1), (46, o38), (47, o4), (52, o6), (53, o7), (107, o8), (116, o3), (117, o39), (129, o40), (131, o11), (1035, o41), (1155, o42)], .tup [.slice 1796 0 1 1 true, I 0], [(3, o0), (5, o1), (46, o38), (47, o4), (52, o6), (53, o7), (107, o8), (116, o3), (117, o39), (129, o40), (131, o11), (1035, o41), (1155, o42), (1796, o49)], 1797⟩
def e20 : Memo := ⟨[.ptr 9 0, .str [102, 105, 110, 100, 32, 97, 32, 104, 32, 49, 49, 32, 50, 48, 32, 53]], 1678, [(3, o0), (5, o1), (9, o12), (46, o38), (47, o4), (52, o6), (53, o7), (107, o8), (116, o3), (117, o39), (129, o40), (131, o11), (168, o13), (169, o14), (170, o29), (171, o16), (172, o45), (173, o47), (174, o18), (175, o19), (176, o25), (187, o48), (189, o22), (304, o31), (426, o32), (429, o33), (431, o32), (1035, o41), (1155, o42), (1209, o32), (1213, o46)], .tup [.str [116, 114, 97, 99, 101, 115, 32, 51, 10], I 0], [(3, o0), (5, o1), (9, o12), (46, o38), (47, o4), (52, o6), (53, o7), (107, o8), (116, o3), (117, o39), (129, o40), (131, o11), (168, o13), (169, o14), (170, o29), (171, o16), (172, o45), (173, o47), (174, o18), (175, o19), (176, o25), (187, o48), (189, o22), (304, o31), (426, o32), (429, o33), (431, o32), (1035, o41), (1155, o42), (1209, o32), (1213, o46)], 1797⟩
def e21 : Memo := ⟨[.ptr 9 0, .str [115, 99, 97, 110, 32, 48, 32, 49]], 1798, [(3, o0), (5, o1), (9, o12), (46, o38), (47, o4), (52, o6), (53, o7), (107, o8), (116, o3), (117, o39), (129, o40), (131, o11), (168, o13), (169, o14), (170, o29), (171, o16), (172, o45), (173, o47), (174, o18), (175, o19), (176, o25), (187, o48), (189, o22), (304, o31), (426, o32), (429, o33), (431, o32), (1035, o41), (1155, o42), (1209, o32), (1213, o46)], .tup [.str [116, 114, 97, 99, 101, 32, 51, 32, 50, 10, 115, 112, 97, 110, 32, 51, 32, 49, 32, 48, 32, 97, 32, 104, 32, 49, 48, 32, 50, 32, 45, 10, 115, 112, 97, 110, 32, 51, 32, 50, 32, 49, 32, 97, 32, 104, 32, 49, 49, 32, 49, 32, 104, 101, 108, 108, 111, 10, 110, 101, 120, 116, 32, 51, 32, 102, 97, 108, 115, 101, 10], I 0], [(3, o0), (5, o1), (9, o12), (46, o38), (47, o4), (52, o6), (53, o7), (107, o8), (116, o3), (117, o39), (129, o40), (131, o11), (168, o13), (169, o14), (170, o29), (171, o16), (172, o45), (173, o47), (174, o18), (175, o19), (176, o25), (187, o48), (189, o22), (304, o31), (426, o32), (429, o33), (431, o32), (1035, o41), (1155, o42), (1209, o32), (1213, o46)], 1993⟩
def e22 : Memo := ⟨[.slice 2014 0 4 4 true], 2027, [(3, o0), (5, o1), (2014, o42)], .tup [.str [4, 0, 17, 115, 0, 0, 0, 0, 0, 0, 0, 3, 0, 0, 0, 0, 0, 0, 0, 1, 1, 10, 3, 1, 0, 10, 2, 1, 97, 1, 104, 0, 16, 1, 2, 3, 15, 3, 2, 1, 11, 1, 1, 97, 1, 104, 5, 104, 101, 108, 108, 111, 0, 29, 120, 97, 0, 104, 0, 0, 0, 0, 0, 0, 0, 0, 10, 0, 0, 0, 0, 0, 0, 0, 3, 0, 0, 0, 0, 0, 0, 0, 1, 2, 0, 12, 17, 11, 0, 0, 0, 0, 0, 0, 0, 3, 0, 0, 0, 0, 0, 0, 0, 2, 4, 0, 129, 120, 6, 45, 1, 17, 115, 0, 0, 0, 0, 0, 0, 0, 3, 0, 0, 0, 0, 0, 0, 0, 1, 106, 10, 11, 0, 244, 0, 0, 0, 0, 0, 0, 0, 110, 0, 0, 0, 0, 0, 0, 0, 4, 115, 112, 111, 111, 114], I 0], [(3, o0), (5, o1), (2014, o42)], 2151⟩
def e23 : Memo := ⟨[.ptr 117 0, I 2], 2164, [(3, o0), (5, o1), (46, o50), (47, o4), (52, o6), (53, o7), (107, o8), (116, o3), (117, o39), (129, o40), (131, o11), (1035, o41), (1155, o42)], I 0, [(3, o0), (5, o1), (46, o50), (47, o4), (52, o6), (53, o7), (107, o8), (116, o51), (117, o39), (129, o40), (131, o11), (1035, o41), (1155, o42), (2177, o52), (2230, o42), (2232, o53)], 2245⟩
def e24 : Memo := ⟨[.ptr 117 0, I 2, .slice 2014 0 4 4 true], 2027, [(3, o0), (5, o1), (46, o38), (47, o4), (52, o6), (53, o7), (107, o8), (116, o3), (117, o39), (129, o40), (131, o11), (1035, o41), (1155, o42), (2014, o42)], I 0, [(3, o0), (5, o1), (46, o50), (47, o4), (52, o6), (53, o7), (107, o8), (116, o51), (117, o39), (129, o40), (131, o11), (1035, o41), (1155, o42), (2014, o42), (2177, o52), (2230, o42), (2232, o53)], 2245⟩
def e25 : Memo := ⟨[.ptr 9 0, .str [102, 108, 117, 115, 104, 32, 48]], 1994, [(3, o0), (5, o1), (9, o12), (46, o38), (47, o4), (52, o6), (53, o7), (107, o8), (116, o3), (117, o39), (129, o40), (131, o11), (168, o13), (169, o14), (170, o29), (171, o16), (172, o45), (173, o47), (174, o18), (175, o19), (176, o25), (187, o48), (189, o22), (304, o31), (426, o32), (429, o33), (431, o32), (1035, o41), (1155, o42), (1209, o32), (1213, o46)], .tup [.str [111, 107, 10], I 0], [(3, o0), (5, o1), (9, o12), (46, o54), (47, o4), (53, o55), (107, o8), (116, o51), (117, o39), (131, o56), (168, o13), (169, o14), (170, o29), (171, o16), (172, o45), (173, o47), (174, o18), (175, o19), (176, o25), (187, o48), (189, o22), (304, o31), (426, o32), (429, o33), (431, o32), (1209, o32), (1213, o46), (2177, o52), (2230, o42), (2232, o53), (2269, o57), (2272, o58), (2328, o10)], 2329⟩
def e26 : Memo := ⟨[.ptr 117 0, I 0], 2346, [(3, o0), (5, o1), (46, o54), (47, o4), (53, o55), (107, o8), (116, o51), (117, o39), (131, o56), (2177, o52), (2230, o42), (2232, o53), (2269, o57), (2272, o58), (2328, o10)], I 0, [(3, o0), (5, o1), (46, o59), (47, o4), (53, o60), (107, o8), (116, o51), (117, o61), (2177, o52), (2230, o42), (2232, o53), (2564, o62), (2567, o58), (2570, o58), (2599, o10), (2605, o10), (2612, o63)], 2613⟩
def e27 : Memo := ⟨[.ptr 9 0, .str [115, 112, 108, 105, 116, 32, 48]], 2330, [(3, o0), (5, o1), (9, o12), (46, o54), (47, o4), (53, o55), (107, o8), (116, o51), (117, o39), (131, o56), (168, o13), (169, o14), (170, o29), (171, o16), (172, o45), (173, o47), (174, o18), (175, o19), (176, o25), (187, o48), (189, o22), (304, o31), (426, o32), (429, o33), (431, o32), (1209, o32), (1213, o46), (2177, o52), (2230, o42), (2232, o53), (2269, o57), (2272, o58), (2328, o10)], .tup [.str [111, 107, 10], I 0], [(3, o0), (5, o1), (9, o12), (46, o59), (47, o4), (53, o60), (107, o8), (116, o51), (117, o61), (168, o13), (169, o14), (170, o29), (171, o16), (172, o45), (173, o47), (174, o18), (175, o19), (176, o25), (187, o48), (189, o22), (304, o31), (426, o32), (429, o33), (431, o32), (1209, o32), (1213, o46), (2177, o52), (2230, o42), (2232, o53), (2564, o62), (2567, o58), (2570, o58), (2599, o10), (2605, o10), (2612, o63)], 2613⟩
def e28 : Memo := ⟨[.ptr 117 0, I 3, I 0], 2833, [(3, o0), (5, o1), (46, o59), (47, o4), (53, o60), (107, o8), (116, o51), (117, o61), (2177, o52), (2230, o42), (2232, o53), (2564, o62), (2567, o58), (2570, o58), (2599, o10), (2605, o10), (2612, o63)], .tup [.agg [I 3, .slice 3023 0 2 2 true], I 0], [(3, o0), (5, o1), (46, o59), (47, o4), (53, o60), (107, o8), (116, o51), (117, o61), (2177, o52), (2230, o42), (2232, o53), (2564, o62), (2567, o58), (2570, o58), (2599, o10), (2605, o10), (2612, o63), (3023, o32)], 3024⟩
def e29 : Memo := ⟨[.ptr 117 0, .agg [.str [97], .str [104], I 10, I 1073741824, I 64], I 0], 3033, [(3, o0), (5, o1), (46, o59), (47, o4), (53, o60), (107, o8), (116, o51), (117, o61), (2177, o52), (2230, o42), (2232, o53), (2564, o62), (2567, o58), (2570, o58), (2599, o10), (2605, o10), (2612, o63)], .tup [.slice 3263 0 1 2 true, I 0], [(3, o0), (5, o1), (46, o59), (47, o4), (53, o60), (107, o8), (116, o51), (117, o61), (2177, o52), (2230, o42), (2232, o53), (2564, o62), (2567, o58), (2570, o58), (2599, o10), (2605, o10), (2612, o63), (3263, o64)], 3264⟩
def e30 : Memo := ⟨[.ptr 117 0, I 3, I 0], 3274, [(3, o0), (5, o1), (46, o59), (47, o4), (53, o60), (107, o8), (116, o51), (117, o61), (2177, o52), (2230, o42), (2232, o53), (2564, o62), (2567, o58), (2570, o58), (2599, o10), (2605, o10), (2612, o63)], .tup [.agg [I 3, .slice 3464 0 2 2 true], I 0], [(3, o0), (5, o1), (46, o59), (47, o4), (53, o60), (107, o8), (116, o51), (117, o61), (2177, o52), (2230, o42), (2232, o53), (2564, o62), (2567, o58), (2570, o58), (2599, o10), (2605, o10), (2612, o63), (3464, o32)], 3465⟩
def e31 : Memo := ⟨[.ptr 117 0, .agg [.str [97], .str [104], I 11, I 1073741824, I 64], I 0], 3474, [(3, o0), (5, o1), (46, o59), (47, o4), (53, o60), (107, o8), (116, o51), (117, o61), (2177, o52), (2230, o42), (2232, o53), (2564, o62), (2567, o58), (2570, o58), (2599, o10), (2605, o10), (2612, o63)], .tup [.slice 3619 0 1 1 true, I 0], [(3, o0), (5, o1), (46, o59), (47, o4), (53, o60), (107, o8), (116, o51), (117, o61), (2177, o52), (2230, o42), (2232, o53), (2564, o62), (2567, o58), (2570, o58), (2599, o10), (2605, o10), (2612, o63), (3619, o49)], 3620⟩
def e32 : Memo := ⟨[.ptr 9 0, .str [97, 117, 100, 105, 116]], 2614, [(3, o0), (5, o1), (9, o12), (46, o59), (47, o4), (53, o60), (107, o8), (116, o51), (117, o61), (168, o13), (169, o14), (170, o29), (171, o16), (172, o45), (173, o47), (174, o18), (175, o19), (176, o25), (187, o48), (189, o22), (304, o31), (426, o32), (429, o33), (431, o32), (1209, o32), (1213, o46), (2177, o52), (2230, o42), (2232, o53), (2564, o62), (2567, o58), (2570, o58), (2599, o10), (2605, o10), (2612, o63)], .tup [.str [102, 105, 116, 115, 32, 116, 114, 117, 101, 32, 115, 111, 117, 110, 100, 32, 116, 114, 117, 101, 10], I 0], [(3, o0), (5, o1), (9, o12), (46, o59), (47, o4), (53, o60), (107, o8), (116, o51), (117, o61), (168, o13), (169, o14), (170, o29), (171, o16), (172, o45), (173, o47), (174, o18), (175, o19), (176, o25), (187, o48), (189, o22), (304, o31), (426, o32), (429, o33), (431, o32), (1209, o32), (1213, o46), (2177, o52), (2230, o42), (2232, o53), (2564, o62), (2567, o58), (2570, o58), (2599, o10), (2605, o10), (2612, o63)], 3634⟩
def e33 : Memo := ⟨[.ptr 9 0, .str [99, 114, 97, 115, 104, 32, 45, 49]], 3635, [(3, o0), (5, o1), (9, o12), (46, o59), (47, o4), (53, o60), (107, o8), (116, o51), (117, o61), (168, o13), (169, o14), (170, o29), (171, o16), (172, o45), (173, o47), (174, o18), (175, o19), (176, o25), (187, o48), (189, o22), (304, o31), (426, o32), (429, o33), (431, o32), (1209, o32), (1213, o46), (2177, o52), (2230, o42), (2232, o53), (2564, o62), (2567, o58), (2570, o58), (2599, o10), (2605, o10), (2612, o63)], .tup [.str [111, 107, 10], I 0], [(3, o0), (5, o1), (9, o12), (46, o59), (47, o65), (168, o66), (169, o14), (170, o29), (171, o16), (172, o45), (173, o47), (174, o18), (175, o19), (176, o25), (187, o48), (189, o22), (304, o31), (426, o32), (429, o33), (431, o32), (1209, o32), (1213, o46)], 3660⟩
def e34 : Memo := ⟨[.ptr 9 0, .str [103, 101, 116, 32, 51]], 3661, [(3, o0), (5, o1), (9, o12), (46, o59), (47, o65), (168, o66), (169, o14), (170, o29), (171, o16), (172, o45), (173, o47), (174, o18), (175, o19), (176, o25), (187, o48), (189, o22), (304, o31), (426, o32), (429, o33), (431, o32), (1209, o32), (1213, o46)], .tup [.str [], I 250], [(3, o0), (5, o1), (9, o12), (46, o59), (47, o65), (168, o66), (169, o14), (170, o29), (171, o16), (172, o45), (173, o47), (174, o18), (175, o19), (176, o25), (187, o48), (189, o22), (304, o31), (426, o32), (429, o33), (431, o32), (1209, o32), (1213, o46)], 3672⟩
def e35 : Memo := ⟨[.ptr 47 0], 3695, [(3, o0), (5, o1), (46, o59), (47, o67)], .tup [.ptr 3700 0, I 0], [(3, o0), (5, o1), (46, o59), (47, o67), (3700, o68), (3834, o69), (3837, o58), (3840, o58)], 3842⟩
def e36 : Memo := ⟨[.ptr 3923 0, I 2], 4009, [(3, o0), (5, o1), (46, o59), (47, o67), (3700, o68), (3834, o69), (3837, o58), (3840, o58), (3859, o70), (3922, o3), (3923, o71), (3941, o10), (3944, o10), (3946, o72)], I 0, [(3, o0), (5, o1), (46, o59), (47, o67), (3700, o68), (3834, o69), (3837, o58), (3840, o58), (3859, o70), (3922, o73), (3923, o74), (3941, o10), (3944, o10), (3946, o72), (4022, o75), (4075, o42), (4077, o76)], 4090⟩
def e37 : Memo := ⟨[.ptr 47 0], 3695, [(3, o0), (5, o1), (46, o59), (47, o67)], .tup [.ptr 3923 0, I 0], [(3, o0), (5, o1), (46, o59), (47, o67), (3700, o68), (3834, o69), (3837, o58), (3840, o58), (3859, o70), (3922, o73), (3923, o74), (3941, o77), (3944, o78), (3946, o72), (4022, o75), (4075, o42), (4077, o76), (4119, o79), (4149, o80), (4193, o81), (4235, o82)], 4236⟩
def e38 : Memo := ⟨[.ptr 9 0, .str [114, 101, 115, 116, 97, 114, 116, 32, 45, 49]], 3675, [(3, o0), (5, o1), (9, o12), (46, o59), (47, o65), (168, o66), (169, o14), (170, o29), (171, o16), (172, o45), (173, o47), (174, o18), (175, o19), (176, o25), (187, o48), (189, o22), (304, o31), (426, o32), (429, o33), (431, o32), (1209, o32), (1213, o46)], .tup [.str [111, 107, 10], I 0], [(3, o0), (5, o1), (9, o12), (46, o59), (47, o67), (168, o83), (169, o14), (170, o29), (171, o16), (172, o45), (173, o47), (174, o18), (175, o19), (176, o25), (187, o48), (189, o22), (304, o31), (426, o32), (429, o33), (431, o32), (1209, o32), (1213, o46), (3700, o68), (3834, o69), (3837, o58), (3840, o58), (3859, o70), (3922, o73), (3923, o74), (3941, o77), (3944, o78), (3946, o72), (4022, o75), (4075, o42), (4077, o76), (4119, o79), (4149, o80), (4193, o81), (4235, o82)], 4236⟩
def e39 : Memo := ⟨[.ptr 9 0, .str [114, 101, 115, 116]], 4237, [(3, o0), (5, o1), (9, o12), (46, o59), (47, o67), (168, o83), (169, o14), (170, o29), (171, o16), (172, o45), (173, o47), (174, o18), (175, o19), (176, o25), (187, o48), (189, o22), (304, o31), (426, o32), (429, o33), (431, o32), (1209, o32), (1213, o46), (3700, o68), (3834, o69), (3837, o58), (3840, o58), (3859, o70), (3922, o73), (3923, o74), (3941, o77), (3944, o78), (3946, o72), (4022, o75), (4075, o42), (4077, o76), (4119, o79), (4149, o80), (4193, o81), (4235, o82)], .tup [.str [114, 101, 115, 116, 32, 48, 32, 116, 114, 117, 101, 10], I 0], [(3, o0), (5, o1), (9, o12), (46, o59), (47, o67), (168, o83), (169, o14), (170, o29), (171, o16), (172, o45), (173, o47), (174, o18), (175, o19), (176, o25), (187, o48), (189, o22), (304, o31), (426, o32), (429, o33), (431, o32), (1209, o32), (1213, o46), (3700, o68), (3834, o69), (3837, o58), (3840, o58), (3859, o70), (3922, o73), (3923, o74), (3941, o77), (3944, o78), (3946, o72), (4022, o75), (4075, o42), (4077, o76), (4119, o79), (4149, o80), (4193, o81), (4235, o82)], 4251⟩
def e40 : Memo := ⟨[.ptr 9 0, .str [119, 104, 97, 116]], 4252, [(3, o0), (5, o1), (9, o12), (46, o59), (47, o67), (168, o83), (169, o14), (170, o29), (171, o16), (172, o45), (173, o47), (174, o18), (175, o19), (176, o25), (187, o48), (189, o22), (304, o31), (426, o32), (429, o33), (431, o32), (1209, o32), (1213, o46), (3700, o68), (3834, o69), (3837, o58), (3840, o58), (3859, o70), (3922, o73), (3923, o74), (3941, o77), (3944, o78), (3946, o72), (4022, o75), (4075, o42), (4077, o76), (4119, o79), (4149, o80), (4193, o81), (4235, o82)], .tup [.str [], I 310], [(3, o0), (5, o1), (9, o12), (46, o59), (47, o67), (168, o83), (169, o14), (170, o29), (171, o16), (172, o45), (173, o47), (174, o18), (175, o19), (176, o25), (187, o48), (189, o22), (304, o31), (426, o32), (429, o33), (431, o32), (1209, o32), (1213, o46), (3700, o68), (3834, o69), (3837, o58), (3840, o58), (3859, o70), (3922, o73), (3923, o74), (3941, o77), (3944, o78), (3946, o72), (4022, o75), (4075, o42), (4077, o76), (4119, o79), (4149, o80), (4193, o81), (4235, o82)], 4258⟩
def exA (f : Nat) : Option (List AV → Heap → Nat → Option CRes) := bif Nat.beq f 87 then some (memosS [e26]) else bif Nat.beq f 117 then some (memosS [e19, e29, e31]) else bif Nat.beq f 123 then some (memosS [e15, e17, e28, e30]) else bif Nat.beq f 197 then some (memosS [e2, e35]) else bif Nat.beq f 201 then some (memosS [e23, e36]) else bif Nat.beq f 245 then some (memosS [e22]) else bif Nat.beq f 349 then some (memosS [e10]) else none
def exB (f : Nat) : Option (List AV → Heap → Nat → Option CRes) := bif Nat.beq f 87 then some (memosS [e26]) else bif Nat.beq f 115 then some (memosS [e3, e37]) else bif Nat.beq f 117 then some (memosS [e19, e29, e31]) else bif Nat.beq f 123 then some (memosS [e15, e17, e28, e30]) else bif Nat.beq f 145 then some (memosS [e11]) else bif Nat.beq f 152 then some (memosS [e24]) else bif Nat.beq f 197 then some (memosS [e2, e35]) else bif Nat.beq f 201 then some (memosS [e23, e36]) else bif Nat.beq f 245 then some (memosS [e22]) else bif Nat.beq f 349 then some (memosS [e10]) else none
def exC (f : Nat) : Option (List AV → Heap → Nat → Option CRes) := bif Nat.beq f 6 then some (memosS [e0, e1, e4, e5, e6, e7, e8, e9, e12, e13, e14, e16, e18, e20, e21, e25, e27, e32, e33, e34, e38, e39, e40]) else none
end
end Go.Proofs.YtelhdbkkigehgaaGreatDoor

