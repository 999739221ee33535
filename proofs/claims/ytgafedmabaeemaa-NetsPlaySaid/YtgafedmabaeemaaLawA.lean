/- The walks over the law's own helpers: SameMail, great, done. -/
import Derived.Test.YtgafedmabaeemaaRefC
namespace Go.Proofs.Ytgafedmabaeemaa
open Go.RowKit

/-- A slice that reads as a list of messages. -/
def Reads (w : World) (v : Value) (L : List Mail) : Prop :=
  ∃ ao cap, v = .slice ao L.length cap ∧ (L = [] ∨ ∃ g o, ao = some ⟨g, o, none⟩ ∧ ∀ j u, (cellsL L)[j]? = some u → w.cell? ⟨g, o + j, none⟩ = some u)

theorem Reads.of_row {w : World} {base : Nat} {v : Value} {L : List Mail} (h : w.ownsRow base 31 3 v L.length (cellsL L)) : Reads w v L := by
  rcases row_form h with ⟨rfl, hn⟩ | ⟨g, cap, rfl, _, _, _, hc⟩
  · exact ⟨none, 0, by rw [hn], .inl (List.eq_nil_of_length_eq_zero hn)⟩
  · exact ⟨_, cap, rfl, .inr ⟨g, 0, rfl, fun j u hu => by rw [Nat.zero_add]; exact hc j u hu⟩⟩
/-- The message that is found at a place. -/
theorem Reads.at {w : World} {L : List Mail} {g o : Nat} (hc : ∀ j u, (cellsL L)[j]? = some u → w.cell? ⟨g, o + j, none⟩ = some u) {i : Nat} {m : Mail} (hm : L[i]? = some m) :
    w.cell? ⟨g, o + i * 3, none⟩ = some (.int .i64 m.f) ∧ w.cell? ⟨g, o + i * 3 + 1, none⟩ = some (.int .i64 m.t) ∧ w.cell? ⟨g, o + i * 3 + 2, none⟩ = some (.string m.d) := by
  obtain ⟨h0, h1, h2⟩ := cellsL_get L i m hm
  exact ⟨hc _ _ h0, hc _ _ h1, hc _ _ h2⟩
theorem Reads.kept {S : Nat → Prop} {w w' : World} {v : Value} {L : List Mail} (h : Reads w v L) (hK : Kept S w w') (hS : ∀ k, v.ownBlock = some k → ¬ S k) : Reads w' v L := by
  obtain ⟨ao, cap, rfl, h⟩ := h
  refine ⟨ao, cap, rfl, ?_⟩
  rcases h with h | ⟨g, o, rfl, hc⟩
  · exact .inl h
  · exact .inr ⟨g, o, rfl, fun j u hu => hK.cell (hc j u hu) (hS g rfl)⟩

/-- Are two messages the same, as the program asks it? -/
def eqM (m k : Mail) : Bool := m.f == k.f && (m.t == k.t && m.d.toList == k.d.toList)
theorem eqM_true {m k : Mail} : eqM m k = true ↔ m = k := by
  unfold eqM
  constructor
  · intro h
    simp only [Bool.and_eq_true, beq_iff_eq] at h
    obtain ⟨h1, h2, h3⟩ := h
    cases m; cases k
    simp only at h1 h2 h3
    rw [ByteArray.toList_eq, ByteArray.toList_eq] at h3
    have h4 := ByteArray.ext (Array.ext' h3)
    rw [h1, h2, h4]
  · rintro rfl; simp
theorem eqM_false {m k : Mail} : eqM m k = false ↔ ¬ m = k := by rw [← eqM_true]; simp
theorem s31 : Try.prog.stoodInHeld 31 = false := by kernel_rfl
theorem g31 : Try.prog.eqGuardType Try.prog.depth 31 = false := by kernel_rfl
theorem neq31 (m k : Mail) (w : World) : (binOp .neq 31 (.agg #[.int .i64 m.f, .int .i64 m.t, .string m.d]) (.agg #[.int .i64 k.f, .int .i64 k.t, .string k.d])).run Try.prog w = .ok (.bool (!eqM m k)) w := by
  have h1 := s31
  by_cases a : m.f = k.f <;> by_cases b : m.t = k.t <;> by_cases c : m.d.toList = k.d.toList <;> simp [go_sem, eqM, h1, a, b, c]
theorem eql31 (m k : Mail) (w : World) : (binOp .eql 31 (.agg #[.int .i64 m.f, .int .i64 m.t, .string m.d]) (.agg #[.int .i64 k.f, .int .i64 k.t, .string k.d])).run Try.prog w = .ok (.bool (eqM m k)) w := by
  have h1 := s31
  by_cases a : m.f = k.f <;> by_cases b : m.t = k.t <;> by_cases c : m.d.toList = k.d.toList <;> simp [go_sem, eqM, h1, a, b, c]

theorem ret_bool {x y : Bool} (h : x = y) : Ending.returned (.bool x) = .returned (.bool y) := by rw [h]
theorem kept_drewN (w : World) (n : Nat) : Kept (fun _ => False) w (w.drewN n) := ⟨rfl, rfl, rfl, Nat.le_refl _, fun _ _ _ => rfl⟩

/-- Are two lists the same? -/
noncomputable def sameB (A B : List Mail) : Bool := @decide (A = B) (Classical.propDecidable _)
theorem sameB_true {A B : List Mail} : sameB A B = true ↔ A = B := by unfold sameB; exact @decide_eq_true_iff _ (Classical.propDecidable _)
theorem sameB_false {A B : List Mail} : sameB A B = false ↔ ¬ A = B := by unfold sameB; exact @decide_eq_false_iff_not _ (Classical.propDecidable _)

set_option maxHeartbeats 1000000 in
theorem same_any (w : World) (va vb : Value) (A B : List Mail) (ha : Reads w va A) (hb : Reads w vb B) (hl : A.length ≤ 1000) (hl2 : B.length ≤ 1000) :
    Calls Try.prog 15 #[va, vb] w fun e w' => e = .returned (.bool (sameB A B)) ∧ Kept (fun _ => False) w w' := by
  obtain ⟨ao, capa, rfl, ha⟩ := ha
  obtain ⟨bo, capb, rfl, hb⟩ := hb
  by_cases hlen : A.length = B.length
  · have HL := Lib.hid hlen; clear hlen
    have HA := Lib.hid ha; have HB := Lib.hid hb; clear ha hb
    have e1 : ((A.length : Int) != B.length) = false := by rw [HL.out]; simp
    go_enter Try.func15, Try.ntmps15
    go_wp2
    go_loopg [5] A.length (fun g t wr => ∃ k : Nat, k + g = A.length ∧ t = .int .i64 k ∧ (∃ n, wr = w.drewN n) ∧ A.take k = B.take k)
    case atStart => exact ⟨0, by omega, rfl, ⟨0, rfl⟩, rfl⟩
    case round =>
      obtain ⟨k, hk, rfl, ⟨n, rfl⟩, heq⟩ := hrel
      have hk1 : k ≤ A.length := by omega
      have J := Lib.hid hk; have EQ := Lib.hid heq
      clear hk heq
      by_cases hlt : k < A.length
      · have hltb : k < B.length := by rw [← HL.out]; exact hlt
        rcases HA.out with h0 | ⟨ga, oa, rfl, hca⟩
        · rw [h0] at hlt; simp at hlt
        rcases HB.out with h0 | ⟨gb, ob, rfl, hcb⟩
        · rw [h0] at hltb; simp at hltb
        obtain ⟨a0, a1, a2⟩ := Reads.at hca (List.getElem?_eq_getElem hlt)
        obtain ⟨b0, b1, b2⟩ := Reads.at hcb (List.getElem?_eq_getElem hltb)
        have i1 : (0 : Int) ≤ (k : Int) := by omega
        have i2 : (k : Int) < (A.length : Int) := by omega
        have i3 : (k : Int) < (B.length : Int) := by omega
        clear hca hcb
        have h2 := g31
        have hq := neq31
        cases hb : eqM A[k] B[k] with
        | true =>
          have hm := eqM_true.1 hb
          have HM := Lib.hid hm; clear hm
          go_wp2
          go_quiet (fail)
          go_wp2
          go_roundg (gk - 1)
          case measure => have := J.out; omega
          case rel => exact ⟨k + 1, by have := J.out; omega, by go_num, ⟨_, rfl⟩, by rw [List.take_succ_eq_append_getElem hlt, List.take_succ_eq_append_getElem hltb, EQ.out, HM.out]⟩
        | false =>
          have hm := eqM_false.1 hb
          have HM := Lib.hid hm; clear hm
          go_wp2
          go_quiet (fail)
          go_wp2
          go_ret
          exact ⟨ret_bool (sameB_false.2 fun e => HM.out (by subst e; rfl)).symm, by first | exact kept_drewN _ _ | (rw [World.drewN_drewN]; exact kept_drewN _ _)⟩
      · have hk2 : k = A.length := by omega
        have K2 := Lib.hid hk2; clear hk2
        go_wp2
        go_ret
        exact ⟨ret_bool (sameB_true.2 (by have := EQ.out; rw [K2.out, List.take_length, HL.out, List.take_length] at this; exact this)).symm, kept_drewN _ _⟩
  · go_enter Try.func15, Try.ntmps15
    have e1 : ((A.length : Int) != B.length) = true := by rw [bne_iff_ne]; omega
    have e2 : sameB A B = false := sameB_false.2 (fun e => hlen (by rw [e]))
    have E := Lib.hid e2
    clear e2 hlen
    go_wp2
    go_ret
    exact ⟨ret_bool E.out.symm, Kept.refl _ _⟩

/-! ### great: an act's cells are its kind, its message, its place. -/
structure Act' where
  kind : Int
  m : Mail
  i : Int

def cellsA : List Act' → List Value
  | [] => []
  | x :: l => .int .u8 x.kind :: .int .i64 x.m.f :: .int .i64 x.m.t :: .string x.m.d :: .int .i64 x.i :: cellsA l
theorem cellsA_length : ∀ L, (cellsA L).length = L.length * 5
  | [] => rfl
  | m :: l => by simp [cellsA, cellsA_length l]; omega
theorem cellsA_get : ∀ (L : List Act') (i : Nat) (x : Act'), L[i]? = some x → (cellsA L)[i * 5]? = some (.int .u8 x.kind) ∧ (cellsA L)[i * 5 + 1]? = some (.int .i64 x.m.f) ∧ (cellsA L)[i * 5 + 2]? = some (.int .i64 x.m.t) ∧ (cellsA L)[i * 5 + 3]? = some (.string x.m.d) ∧ (cellsA L)[i * 5 + 4]? = some (.int .i64 x.i)
  | [], i, m, h => by simp at h
  | y :: l, 0, m, h => by simp at h; subst h; exact ⟨rfl, rfl, rfl, rfl, rfl⟩
  | y :: l, i + 1, m, h => by
    have := cellsA_get l i m (by simpa using h)
    rw [show (i + 1) * 5 = i * 5 + 5 by omega]
    exact this
def ReadsA (w : World) (v : Value) (L : List Act') : Prop :=
  ∃ ao cap, v = .slice ao L.length cap ∧ (L = [] ∨ ∃ g o, ao = some ⟨g, o, none⟩ ∧ ∀ j u, (cellsA L)[j]? = some u → w.cell? ⟨g, o + j, none⟩ = some u)
theorem ReadsA.kept {S : Nat → Prop} {w w' : World} {v : Value} {L : List Act'} (h : ReadsA w v L) (hK : Kept S w w') (hS : ∀ k, v.ownBlock = some k → ¬ S k) : ReadsA w' v L := by
  obtain ⟨ao, cap, rfl, h⟩ := h
  refine ⟨ao, cap, rfl, ?_⟩
  rcases h with h | ⟨g, o, rfl, hc⟩
  · exact .inl h
  · exact .inr ⟨g, o, rfl, fun j u hu => hK.cell (hc j u hu) (hS g rfl)⟩
theorem ReadsA.at {w : World} {L : List Act'} {g o : Nat} (hc : ∀ j u, (cellsA L)[j]? = some u → w.cell? ⟨g, o + j, none⟩ = some u) {i : Nat} {x : Act'} (hm : L[i]? = some x) :
    w.cell? ⟨g, o + i * 5, none⟩ = some (.int .u8 x.kind) ∧ w.cell? ⟨g, o + i * 5 + 1, none⟩ = some (.int .i64 x.m.f) ∧ w.cell? ⟨g, o + i * 5 + 2, none⟩ = some (.int .i64 x.m.t) ∧ w.cell? ⟨g, o + i * 5 + 3, none⟩ = some (.string x.m.d) ∧ w.cell? ⟨g, o + i * 5 + 4, none⟩ = some (.int .i64 x.i) := by
  obtain ⟨h0, h1, h2, h3, h4⟩ := cellsA_get L i x hm
  exact ⟨hc _ _ h0, hc _ _ h1, hc _ _ h2, hc _ _ h3, hc _ _ h4⟩

/-- May the acts be gone through? -/
def fitA (L : List Act') : Prop := L.length ≤ 400 ∧ ∀ x ∈ L, x.m.d.size ≤ 1000
noncomputable def greatB (L : List Act') : Bool := @decide (¬ fitA L) (Classical.propDecidable _)
theorem greatB_true {L : List Act'} : greatB L = true ↔ ¬ fitA L := by unfold greatB; exact @decide_eq_true_iff _ (Classical.propDecidable _)
theorem greatB_false {L : List Act'} : greatB L = false ↔ fitA L := by unfold greatB; rw [@decide_eq_false_iff_not _ (Classical.propDecidable _), Classical.not_not]

set_option maxHeartbeats 1000000 in
theorem great_any (w : World) (v : Value) (L : List Act') (h : ReadsA w v L) (hlen : L.length ≤ 9223372036854775807) (hsz : ∀ x ∈ L, x.m.d.size ≤ 9223372036854775807) :
    Calls Try.prog 9 #[v] w fun e w' => e = .returned (.bool (greatB L)) ∧ w = w' := by
  obtain ⟨ao, cap, rfl, ha⟩ := h
  have HA := Lib.hid ha; have SZ := Lib.hid hsz; clear ha hsz
  go_enter Try.func9, Try.ntmps9
  go_wp2
  go_loopg [3] L.length (fun g t wr => wr = w ∧ ∃ k : Nat, k + g = L.length ∧ t = .int .i64 k ∧ ∀ x ∈ L.take k, x.m.d.size ≤ 1000)
  case atStart => exact ⟨rfl, 0, by omega, rfl, fun x h => by simp at h⟩
  case round =>
    obtain ⟨rfl, k, hk, rfl, hsmall⟩ := hrel
    have hk1 : k ≤ L.length := by omega
    have J := Lib.hid hk; have SM := Lib.hid hsmall
    clear hk hsmall
    by_cases hlt : k < L.length
    · rcases HA.out with h0 | ⟨ga, oa, rfl, hca⟩
      · rw [h0] at hlt; simp at hlt
      obtain ⟨_, _, _, a3, _⟩ := ReadsA.at hca (List.getElem?_eq_getElem hlt)
      have hz := SZ.out L[k] (List.getElem_mem hlt)
      clear hca
      by_cases hbig : L[k].m.d.size ≤ 1000
      · go_wp2
        go_roundg (gk - 1)
        case measure => have := J.out; omega
        case rel => exact ⟨rfl, k + 1, by have := J.out; omega, by go_num, fun x hx => by
          rw [List.take_succ_eq_append_getElem hlt, List.mem_append] at hx
          rcases hx with hx | hx
          · exact SM.out x hx
          · simp at hx; subst hx; exact hbig⟩
      · go_wp2
        go_ret
        exact ⟨ret_bool (greatB_true.2 fun f => hbig (f.2 _ (List.getElem_mem hlt))).symm, rfl⟩
    · have hk2 : k = L.length := by omega
      have K2 := Lib.hid hk2; clear hk2
      go_wp2
      go_ret
      refine ⟨ret_bool ?_, rfl⟩
      have hall : ∀ x ∈ L, x.m.d.size ≤ 1000 := by have := SM.out; rwa [K2.out, List.take_length] at this
      go_light
      by_cases c : L.length ≤ 400
      · rw [greatB_false.2 ⟨c, hall⟩]; simp; omega
      · rw [greatB_true.2 (fun f => c f.1)]; simp; omega
end Go.Proofs.Ytgafedmabaeemaa
