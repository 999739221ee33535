/- NetsPlay: the walk. -/
import Derived.Test.YtgafedmabaeemaaSaid
import Derived.Test.YtgafedmabaeemaaDoes
import Derived.Test.YtgafedmabaeemaaCount
namespace Go.Proofs.Ytgafedmabaeemaa
open Go.RowKit

theorem done_c (w : World) (b : Nat) (L : List Mail) (x : Act') (h : NetOk w b L) (h0 : 0 ≤ x.kind) (h1 : x.kind < 256) (m : Mail) (hm : doneM L x = m) (r : Bool) (hr : doneB L x = r) :
    Calls Try.prog 11 #[.pointer (some ⟨b, 0, none⟩), .agg #[.int .u8 x.kind, .int .i64 x.m.f, .int .i64 x.m.t, .string x.m.d, .int .i64 x.i]] w fun e w' => e = .returned (.tuple #[.agg #[.int .i64 m.f, .int .i64 m.t, .string m.d], .bool r]) ∧ NetOk w' b (doneL L x) ∧ Kept (fun k => k = b) w w' := by
  subst hr; subst hm; exact done_any w b L x h h0 h1
theorem said_c (w : World) (base r : Nat) (v : Value) (L : List Mail) (x : Act') (h : RefOk w base r v L) (hb : base ≤ w.heap.size) (h0 : 0 ≤ x.kind) (h1 : x.kind < 256) (m : Mail) (hm : doneM L x = m) (is : Bool) (hr : doneB L x = is) :
    Calls Try.prog 12 #[.pointer (some ⟨r, 0, none⟩), .agg #[.int .u8 x.kind, .int .i64 x.m.f, .int .i64 x.m.t, .string x.m.d, .int .i64 x.i]] w fun e w' => e = .returned (.tuple #[.agg #[.int .i64 m.f, .int .i64 m.t, .string m.d], .bool is]) ∧ RefNow w w' base r v (doneL L x) := by
  subst hr; subst hm; exact said_any w base r v L x h hb h0 h1

/-- What holds at the head of each round of NetsPlay. -/
structure PlayAt (w wr : World) (b r : Nat) (v : Value) (L M : List Mail) : Prop where
  net : NetOk wr b L
  ref : RefOk wr r r v M
  below : Below w.heap.size w wr
  b_r : b < r
  w_b : w.heap.size ≤ b

theorem PlayAt.same {w wr w' : World} {b r : Nat} {v : Value} {L M : List Mail} (h : PlayAt w wr b r v L M) (hK : Kept (fun _ => False) wr w') : PlayAt w w' b r v L M :=
  ⟨h.net.kept hK (fun f => f), h.ref.kept hK (fun f => f) (fun _ _ f => f), Below.step h.below (Nat.le_refl _) hK (fun _ f => f.elim), h.b_r, h.w_b⟩
theorem PlayAt.apart {w wr : World} {b r : Nat} {v : Value} {L M : List Mail} (h : PlayAt w wr b r v L M) : ∀ k, v.ownBlock = some k → r ≤ k ∧ k < wr.heap.size := fun k hk => h.ref.row.lt k hk
theorem PlayAt.netTurn {w wr w' : World} {b r : Nat} {v : Value} {L M L' : List Mail} (h : PlayAt w wr b r v L M) (hN : NetOk w' b L') (hK : Kept (fun k => k = b) wr w') : PlayAt w w' b r v L' M := by
  have h1 := h.b_r
  have h2 := h.w_b
  exact ⟨hN, h.ref.kept hK (fun e => by omega) (fun k hk e => by have := (h.apart k hk).1; omega), Below.step h.below (Nat.le_refl _) hK (fun _ e => by omega), h1, h2⟩
theorem PlayAt.refTurn {w wr w' : World} {b r : Nat} {v : Value} {L M M' : List Mail} (h : PlayAt w wr b r v L M) (hR : RefNow wr w' r r v M') : ∃ v', PlayAt w w' b r v' L M' := by
  have h1 := h.b_r
  have h2 := h.w_b
  obtain ⟨⟨v', o1, o2⟩, hK⟩ := hR
  have hS : ∀ k, RefS r v k → r ≤ k := fun k hk => by
    rcases hk with rfl | hk
    · exact Nat.le_refl _
    · exact (h.apart k hk).1
  exact ⟨v', h.net.kept hK (fun e => by have := hS _ e; omega), o1, Below.step h.below (Nat.le_refl _) hK (fun k e => by have := hS k e; omega), h1, h2⟩

/-- A row that may be written over. -/
structure Turn (w wr : World) (g n : Nat) : Prop where
  row : ∃ cur, wr.heap[g]? = some (.cells cur 31 (0, 0)) ∧ n * 3 ≤ cur.size
  kept : Kept (fun k => k = g) w wr
theorem Turn.cells {w wr : World} {g n j : Nat} (h : Turn w wr g n) (hj : j < n) : ∃ x y z, wr.cell? ⟨g, j * 3, none⟩ = some x ∧ wr.cell? ⟨g, j * 3 + 1, none⟩ = some y ∧ wr.cell? ⟨g, j * 3 + 2, none⟩ = some z := by
  obtain ⟨cur, hg, hs⟩ := h.row
  refine ⟨cur[j * 3]'(by omega), cur[j * 3 + 1]'(by omega), cur[j * 3 + 2]'(by omega), ?_, ?_, ?_⟩ <;> simp [World.cell?, hg]
  all_goals (first | exact ⟨by omega, trivial⟩ | omega)
theorem Turn.frozen {w wr : World} {g n : Nat} (h : Turn w wr g n) (i : Nat) : wr.frozen? ⟨g, i, none⟩ = false := by
  obtain ⟨cur, hg, _⟩ := h.row
  simp [World.frozen?, hg]
theorem Turn.set {w wr : World} {g n : Nat} (h : Turn w wr g n) (i : Nat) (u : Value) : Turn w (wr.setCell ⟨g, i, none⟩ u) g n := by
  obtain ⟨⟨cur, hg, hs⟩, hK⟩ := h
  exact ⟨⟨_, heap_setCell_same wr g i cur 31 u hg, by simpa using hs⟩, hK.setCell (fun _ => rfl) _⟩
theorem turn_of_row {w : World} {base n : Nat} {aa : Option Addr} {capa : Nat} {xs : List Value} (h : w.ownsRow base 31 3 (.slice aa n capa) n xs) : ∀ q, aa = some q → ∃ g, q = ⟨g, 0, none⟩ ∧ base ≤ g ∧ Turn w w g n := by
  rintro q rfl
  rcases h.2 with ⟨e, _⟩ | ⟨g, cap, cur, e, hb, hg, hle, _, hs, _⟩
  · cases e
  · injection e with e1 e2 e3; injection e1 with e1
    exact ⟨g, e1, hb, ⟨cur, hg, by rw [hs]; exact Nat.mul_le_mul_right 3 hle⟩, Kept.refl _ _⟩
theorem row_none {w : World} {base n : Nat} {capa : Nat} {xs : List Value} (h : w.ownsRow base 31 3 (.slice none n capa) n xs) : n = 0 := by
  rcases h.2 with ⟨_, e⟩ | ⟨g, cap, cur, e, _⟩
  · exact e
  · cases e
theorem PlayAt.off {S : Nat → Prop} {w wr w' : World} {b r : Nat} {v : Value} {L M : List Mail} (h : PlayAt w wr b r v L M) (hK : Kept S wr w') (h1 : ¬ S b) (h2 : ¬ S r) (h3 : ∀ k, v.ownBlock = some k → ¬ S k) (h4 : ∀ k, S k → w.heap.size ≤ k) : PlayAt w w' b r v L M :=
  ⟨h.net.kept hK h1, h.ref.kept hK h2 h3, Below.step h.below (Nat.le_refl _) hK h4, h.b_r, h.w_b⟩

set_option maxRecDepth 100000 in
set_option maxHeartbeats 8000000 in
theorem netsPlay_any (w : World) (v : Value) (A : List Act') (h : ReadsA w v A) (hl : A.length ≤ 9223372036854775807) (hall : ∀ y ∈ A, 0 ≤ y.kind ∧ y.kind < 256 ∧ y.m.d.size ≤ 9223372036854775807) :
    Calls Try.prog 3 #[v] w fun e w' => e = .returned (.bool true) ∧ Below w.heap.size w w' := by
  have hB := Nat.le_refl w.heap.size
  have SZ := Lib.hid (fun y hy => (hall y hy).2.2 : ∀ y ∈ A, y.m.d.size ≤ 9223372036854775807)
  have KB := Lib.hid (fun y hy => ⟨(hall y hy).1, (hall y hy).2.1⟩ : ∀ y ∈ A, 0 ≤ y.kind ∧ y.kind < 256)
  clear hall
  have H := Lib.hid h
  obtain ⟨ao, cap, rfl, hx⟩ := h
  have HX := Lib.hid hx; clear hx
  cases hg : greatB A with
  | true =>
    go_enter Try.func3, Try.ntmps3
    go_wp2_with fail
    refine (great_any _ _ A H.out hl SZ.out).mono ?_
    rintro e w1 ⟨rfl, rfl⟩
    rw [hg]
    go_wp2
    go_ret
    exact ⟨rfl, Below.refl _ _⟩
  | false =>
    go_enter Try.func3, Try.ntmps3
    go_wp2_with fail
    refine (great_any _ _ A H.out hl SZ.out).mono ?_
    rintro e w1 ⟨rfl, rfl⟩
    rw [hg]
    clear hg
    go_wp2_with fail
    refine (new_any _).mono ?_
    rintro e w1 ⟨rfl, hN, hK⟩
    have hw1 := hN.lt
    have P0 : Hid (PlayAt w (w1.alloc (Obj.cells #[.slice none 0 0] 29)) w.heap.size w1.heap.size (.slice none 0 0) [] []) := Lib.hid ⟨hN.kept ((Kept.refl (fun _ => False) _).alloc _) (fun f => f), ⟨heap_alloc_new _ _, ⟨by simp [cellsL], .inl ⟨rfl, rfl⟩⟩, (by intro e; cases e), by simp⟩, (Below.step (Below.refl _ _) hB hK (fun _ f => f.elim)).alloc' hB _, hw1, Nat.le_refl _⟩
    clear hN hK
    go_wp2_with fail
    go_loopg [5] A.length (fun g t wr => ∃ k : Nat, k + g = A.length ∧ t = .int .i64 k ∧ ∃ v L, PlayAt w wr w.heap.size w1.heap.size v L L)
    case atStart => exact ⟨0, by omega, rfl, _, _, P0.out⟩
    case round =>
      obtain ⟨k, hk, rfl, v1, L, hP⟩ := hrel
      have J := Lib.hid hk; have P1 := Lib.hid hP
      clear hk hP
      have hk2 : k ≤ A.length := by have := J.out; omega
      by_cases hlt : k < A.length
      · rcases HX.out with h0 | ⟨ga, oa, rfl, hc⟩
        · rw [h0] at hlt; simp at hlt
        have hget := List.getElem?_eq_getElem hlt
        obtain ⟨x, hxe⟩ : ∃ x, A[k] = x := ⟨_, rfl⟩
        rw [hxe] at hget
        obtain ⟨k0, k1⟩ := KB.out x (hxe ▸ List.getElem_mem hlt)
        clear hxe
        obtain ⟨c0, c1, c2, c3, c4⟩ := ReadsA.at hc hget
        have q0 : ga < w.heap.size := World.block_lt_of_cell? _ _ c0
        have d0 := (P1.out.below.cell q0).trans c0
        have d1 := (P1.out.below.cell q0).trans c1
        have d2 := (P1.out.below.cell q0).trans c2
        have d3 := (P1.out.below.cell q0).trans c3
        have d4 := (P1.out.below.cell q0).trans c4
        clear c0 c1 c2 c3 c4 hc hget
        obtain ⟨m, hm⟩ : ∃ m, doneM L x = m := ⟨_, rfl⟩
        obtain ⟨ok, hok⟩ : ∃ ok, doneB L x = ok := ⟨_, rfl⟩
        obtain ⟨M, hM⟩ : ∃ M, doneL L x = M := ⟨_, rfl⟩
        have HM := Lib.hid hm; have HO := Lib.hid hok; have HL := Lib.hid hM
        clear hm hok hM
        have i1 : (0 : Int) ≤ (k : Int) := by omega
        have i2 : (k : Int) < (A.length : Int) := by omega
        have hgb : ¬ ga = w.heap.size := by omega
        go_wp2_with fail
        refine (done_c _ _ L x P1.out.net k0 k1 m HM.out ok HO.out).mono ?_
        rintro e w2 ⟨rfl, hN, hK⟩
        rw [HL.out] at hN
        have P2 := Lib.hid (P1.out.netTurn hN hK)
        have f0 := (hK.cell d0 hgb); have f1 := (hK.cell d1 hgb); have f2 := (hK.cell d2 hgb); have f3 := (hK.cell d3 hgb); have f4 := (hK.cell d4 hgb)
        have hw2 := P2.out.ref.lt
        have hga : ga < w2.heap.size := by omega
        clear hN hK d0 d1 d2 d3 d4
        go_wp2_with fail
        have P2' := Lib.hid (P2.out.same ((Kept.refl (fun _ => False) _).alloc (Obj.cells #[.int .i64 m.f, .int .i64 m.t, .string m.d] 31)))
        have n2 : ¬ RefS w1.heap.size v1 w2.heap.size := not_refS (by omega) (fun e => by have := (P2.out.apart _ e).2; omega)
        refine (said_c _ _ _ v1 L x P2'.out.ref (by simp; omega) k0 k1 m HM.out ok HO.out).mono ?_
        rintro e w3 ⟨rfl, hR⟩
        rw [HL.out] at hR
        obtain ⟨a0, a1, a2, _⟩ := hR.kept.cells3 (n := w2.heap.size) n2 (x := .int .i64 m.f) (y := .int .i64 m.t) (z := .string m.d) (by simp [go_sem]) (by simp [go_sem]) (by simp [go_sem]) (by simp [go_sem])
        have hsz := hR.kept.size
        have hw3 : w2.heap.size < w3.heap.size := by simp at hsz; omega
        obtain ⟨v3, hP3⟩ := P2'.out.refTurn hR
        have P3 := Lib.hid hP3
        obtain ⟨ao3, cap3, hv3⟩ : ∃ ao3 cap3, v3 = .slice ao3 M.length cap3 := by
          rcases row_form hP3.ref.row with ⟨rfl, hn⟩ | ⟨g, cap, rfl, _⟩
          · exact ⟨none, 0, by rw [hn]⟩
          · exact ⟨_, _, rfl⟩
        subst hv3
        have hr3 := hP3.ref.read
        have hrl := hP3.ref.lt
        clear hR hP3 f0 f1 f2 f3 f4 n2 hsz
        have hs31 := s31
        have hg31 := g31
        have hq31 := neq31 m m
        have heq : eqM m m = true := eqM_true.2 rfl
        go_upto_region 9 with fail
        have M3 := Lib.hid (P3.out.net.many)
        go_region_held3 (fun w' => w'.cell? ⟨w2.heap.size, 0, none⟩ = some (.int .i64 m.f) ∧ w'.cell? ⟨w2.heap.size, 1, none⟩ = some (.int .i64 m.t) ∧ w'.cell? ⟨w2.heap.size, 2, none⟩ = some (.string m.d) ∧ w'.cell? ⟨w3.heap.size, 0, none⟩ = some (.int .i64 m.f) ∧ w'.cell? ⟨w3.heap.size, 1, none⟩ = some (.int .i64 m.t) ∧ w'.cell? ⟨w3.heap.size, 2, none⟩ = some (.string m.d) ∧ w'.cell? ⟨w1.heap.size, 0, none⟩ = some (.slice ao3 M.length cap3)) (first | go_keep | (go_split_ands; (simp [go_sem, *]; done)))
          (first | (go_at_call 13; refine (len_any _ _ M.length ?_).mono ?_; (exact M3.out.kept (S := fun _ => False) (by repeat (first | exact Kept.refl _ _ | apply Kept.drew | apply Kept.alloc)) (fun _ _ f => f)); rintro e w4 ⟨rfl, rfl⟩))
        clear hq31 hs31 hg31 heq a0 a1 a2
        have W4 := Lib.hid (P3.out.same (((Kept.refl (fun _ => False) w3).alloc (Obj.cells #[.int .i64 m.f, .int .i64 m.t, .string m.d] 31)).drew))
        by_cases h16 : (k : Int) % 16 = 0
        · go_wp2_with fail
          refine (all_at _ _ M W4.out.net).mono ?_
          rintro e w5 ⟨va, rfl, hown, hK⟩
          obtain ⟨aa, capa, hva⟩ : ∃ aa capa, va = .slice aa M.length capa := by
            rcases row_form hown with ⟨rfl, hn⟩ | ⟨g, cap, rfl, _⟩
            · exact ⟨none, 0, by rw [hn]⟩
            · exact ⟨_, _, rfl⟩
          subst hva
          have P5 := Lib.hid (W4.out.same hK)
          have R5 := Lib.hid (Reads.of_row hown)
          have O5 := Lib.hid hown
          have hr5 := P5.out.ref.read
          clear hown hK
          go_wp2_with fail
          refine (same_yes _ _ _ M R5.out (Reads.of_row P5.out.ref.row) (by have := P5.out.ref.le; omega)).mono ?_
          rintro e w6 ⟨rfl, hK⟩
          have P6 := Lib.hid (P5.out.same hK)
          have hO6 := turn_of_row (O5.out.keptBy hK (fun _ _ f => f))
          have O6 := Lib.hid hO6
          have hr6 := P6.out.ref.read
          clear hK hr5 hr3 hO6
          go_wp2_with fail
          go_loopg [11] M.length (fun g t ws => ∃ j : Nat, j + g = M.length ∧ t = .int .i64 j ∧ PlayAt w ws w.heap.size w1.heap.size (.slice ao3 M.length cap3) M M ∧ ∀ q, aa = some q → ∃ n, q = ⟨n, 0, none⟩ ∧ w3.heap.size < n ∧ Turn w6 ws n M.length)
          case atStart => exact ⟨0, by omega, rfl, P6.out, fun q hq => by obtain ⟨n, e1, e2, e3⟩ := O6.out q hq; exact ⟨n, e1, by simp at e2; omega, e3⟩⟩
          case round =>
            obtain ⟨j, hj, rfl, hPj, hT⟩ := hrel
            have I := Lib.hid hj; have PJ := Lib.hid hPj; have TJ := Lib.hid hT
            clear hj hPj hT
            have hj2 : j ≤ M.length := by have := I.out; omega
            have hM64 := P6.out.ref.le
            by_cases hlj : j < M.length
            · cases aa with
              | none => have := row_none O5.out; omega
              | some q =>
                obtain ⟨n, rfl, hn, hT⟩ := TJ.out q rfl
                have T := Lib.hid hT
                obtain ⟨x, y, z, cx, cy, cz⟩ := hT.cells hlj
                have fx := hT.frozen (j * 3); have fy := hT.frozen (j * 3 + 1); have fz := hT.frozen (j * 3 + 2)
                clear hT
                have i3 : (0 : Int) ≤ (j : Int) := by omega
                have i4 : (j : Int) < (M.length : Int) := by omega
                go_wp2
                go_roundg (gk - 1)
                case measure => have := I.out; omega
                case rel =>
                  have T2 := ((T.out.set (j * 3) (.int .i64 0)).set (j * 3 + 1) (.int .i64 0)).set (j * 3 + 2) (.string ⟨#[63]⟩)
                  refine ⟨j + 1, by have := I.out; omega, by go_num, ?_, fun q hq => ⟨n, by injection hq with hq; exact hq.symm, hn, T2⟩⟩
                  refine P6.out.off T2.kept (by omega) (by omega) (fun k hk e => ?_) (fun k e => by omega)
                  have := (P3.out.apart k hk).2; omega
            · go_wp2
              go_roundg (A.length - k - 1)
              case measure => have := J.out; omega
              case rel => exact ⟨k + 1, by have := J.out; omega, by go_num, _, M, PJ.out⟩
        · go_wp2_with fail
          go_roundg (gk - 1)
          case measure => have := J.out; omega
          case rel => exact ⟨k + 1, by have := J.out; omega, by go_num, _, M, W4.out⟩
      · obtain ⟨ao1, cap1, hv1⟩ : ∃ ao1 cap1, v1 = .slice ao1 L.length cap1 := by
          rcases row_form P1.out.ref.row with ⟨rfl, hn⟩ | ⟨g, cap, rfl, _⟩
          · exact ⟨none, 0, by rw [hn]⟩
          · exact ⟨_, _, rfl⟩
        subst hv1
        have hr1 := P1.out.ref.read
        go_upto_region 19 with fail
        go_region_held3 (fun w' => w'.cell? ⟨w1.heap.size, 0, none⟩ = some (.slice ao1 L.length cap1)) (first | go_keep | (exact hKn.cell (by assumption) (fun f => f)))
          (first
            | (go_at_call 16; refine (does_any _).mono ?_; rintro e w7 ⟨rfl, hKn⟩; (have G7 := Lib.hid (Below.step P6.out.below hB hKn (fun _ f => f.elim))))
            | (go_at_call 15; refine (same_yes _ _ _ L R5.out (Reads.of_row P5.out.ref.row) (by have := P5.out.ref.le; omega)).mono ?_; rintro e w6 ⟨rfl, hKn⟩; (have P6 := Lib.hid (P5.out.same hKn)))
            | (go_at_call 14; refine (all_reads _ _ L (P1.out.same ((Kept.refl (fun _ => False) _).drew)).net).mono ?_; rintro e w5 ⟨a5, cap5, rfl, hR, hnew, hKn⟩; (have R5 := Lib.hid hR); (have P5 := Lib.hid ((P1.out.same ((Kept.refl (fun _ => False) _).drew)).same hKn)); (clear hR hnew)))
        all_goals go_wp2
        all_goals go_ret
        all_goals exact ⟨rfl, G7.out⟩
end Go.Proofs.Ytgafedmabaeemaa
