/- The walk over the law's own example, 'does'. -/
import Derived.Test.YtgafedmabaeemaaLawB
namespace Go.Proofs.Ytgafedmabaeemaa
open Go.RowKit

theorem send_ok (w : World) (b : Nat) (L : List Mail) (m : Mail) (h : NetOk w b L) (hl : L.length < 64) :
    Calls Try.prog 21 #[.pointer (some ⟨b, 0, none⟩), .agg #[.int .i64 m.f, .int .i64 m.t, .string m.d]] w fun e w' => e = .returned (.bool true) ∧ NetOk w' b (L ++ [m]) ∧ Kept (fun k => k = b) w w' :=
  (send_at w b L m h).mono fun e w' ⟨h1, h2, h3⟩ => ⟨by rw [h1, roomB, decide_eq_true hl], by
    have : sendL L m = L ++ [m] := by simp [sendL, putL, hl, insL]
    rwa [this] at h2, h3⟩
theorem double_ok (w : World) (b : Nat) (L : List Mail) (i : Nat) (m : Mail) (h : NetOk w b L) (hm : L[i]? = some m) (hl : L.length < 64) :
    Calls Try.prog 18 #[.pointer (some ⟨b, 0, none⟩), .int .i64 i] w fun e w' => e = .returned (.bool true) ∧ NetOk w' b (insL L (i + 1) m) ∧ Kept (fun k => k = b) w w' :=
  (double_at w b L i m h hm).mono fun e w' ⟨h1, h2, h3⟩ => ⟨by rw [h1, roomB, decide_eq_true hl], by rwa [putL, if_pos hl] at h2, h3⟩
/-- All, as a slice that reads. -/
theorem all_reads (w : World) (b : Nat) (L : List Mail) (h : NetOk w b L) :
    Calls Try.prog 14 #[.pointer (some ⟨b, 0, none⟩)] w fun e w' => ∃ ao cap, e = .returned (.slice ao L.length cap) ∧ Reads w' (.slice ao L.length cap) L ∧ (∀ k, (Value.slice ao L.length cap).ownBlock = some k → w.heap.size ≤ k) ∧ Kept (fun _ => False) w w' :=
  (all_at w b L h).mono fun e w' ⟨v, h1, h2, h3⟩ => by
    have hr := Reads.of_row h2
    have hl := h2.lt
    obtain ⟨ao, cap, rfl, hx⟩ := hr
    exact ⟨ao, cap, h1, ⟨ao, cap, rfl, hx⟩, fun k hk => (hl k hk).1, h3⟩
theorem same_yes (w : World) (va vb : Value) (A : List Mail) (ha : Reads w va A) (hb : Reads w vb A) (hl : A.length ≤ 1000) :
    Calls Try.prog 15 #[va, vb] w fun e w' => e = .returned (.bool true) ∧ Kept (fun _ => False) w w' :=
  (same_any w va vb A A ha hb hl hl).mono fun e w' ⟨h1, h2⟩ => ⟨by rw [h1, sameB_true.2 rfl], h2⟩

theorem take_i (w : World) (b : Nat) (L : List Mail) (i : Int) (n : Nat) (m : Mail) (e : i = n) (h : NetOk w b L) (hm : L[n]? = some m) :
    Calls Try.prog 20 #[.pointer (some ⟨b, 0, none⟩), .int .i64 i] w fun e w' => e = .returned (.tuple #[.agg #[.int .i64 m.f, .int .i64 m.t, .string m.d], .bool true]) ∧ NetOk w' b (L.eraseIdx n) ∧ Kept (fun k => k = b) w w' := by
  subst e; exact take_at w b L n m h hm
theorem lose_i (w : World) (b : Nat) (L : List Mail) (i : Int) (n : Nat) (e : i = n) (h : NetOk w b L) (hm : n < L.length) :
    Calls Try.prog 19 #[.pointer (some ⟨b, 0, none⟩), .int .i64 i] w fun e w' => e = .returned (.bool true) ∧ NetOk w' b (L.eraseIdx n) ∧ Kept (fun k => k = b) w w' := by
  subst e; exact lose_yes w b L n h hm

def mA : Mail := ⟨0, 0, ⟨#[97]⟩⟩
def mB : Mail := ⟨0, 0, ⟨#[98]⟩⟩
def mC : Mail := ⟨0, 0, ⟨#[99]⟩⟩

theorem take_mA (w : World) (b : Nat) (h : NetOk w b [mA, mA, mB]) :
    Calls Try.prog 20 #[.pointer (some ⟨b, 0, none⟩), .int .i64 1] w fun e w' => e = .returned (.tuple #[.agg #[.int .i64 0, .int .i64 0, .string ⟨#[97]⟩], .bool true]) ∧ NetOk w' b [mA, mB] ∧ Kept (fun k => k = b) w w' :=
  take_i w b [mA, mA, mB] 1 1 mA rfl h rfl

/-- The slice that is made of a list of values of messages, in whatever world lies behind. -/
theorem reads_lit {w W : World} {n cap : Nat} {L : List Mail} {cs : Array Value} {S : Nat → Prop} (hb : w.heap[n]? = some (.cells cs 31 (0, 0))) (hcs : cs.toList = cellsL L) (hK : Kept S w W) (hS : ¬ S n) :
    Reads W (.slice (some ⟨n, 0, none⟩) L.length cap) L :=
  ⟨_, cap, rfl, .inr ⟨n, 0, rfl, fun j u hu => by
    refine hK.cell ?_ hS
    rw [Nat.zero_add]
    rw [cell_of_row w n j cs 31 (0, 0) hb, ← Array.getElem?_toList, hcs]; exact hu⟩⟩

theorem _root_.Go.RowKit.Below.step {B : Nat} {a W W' : World} {S : Nat → Prop} (h : Below B a W) (hB : B ≤ a.heap.size) (k : Kept S W W') (hS : ∀ i, S i → B ≤ i) : Below B a W' :=
  h.trans ⟨k.os, k.tape, k.output, k.size, fun i hi => k.block i (Nat.lt_of_lt_of_le hi (Nat.le_trans hB h.size)) (fun e => by have := hS i e; omega)⟩
theorem _root_.Go.RowKit.Below.alloc' {B : Nat} {a w : World} (h : Below B a w) (hB : B ≤ a.heap.size) (o : Obj) : Below B a (w.alloc o) := h.alloc (Nat.le_trans hB h.size) o

set_option maxHeartbeats 8000000 in
theorem does_any (w : World) : Calls Try.prog 16 #[] w fun e w' => e = .returned (.bool true) ∧ Kept (fun _ => False) w w' := by
  go_enter Try.func16, Try.ntmps16
  go_wp2_with fail
  refine (new_any _).mono ?_
  rintro e w1 ⟨rfl, hN, hK⟩
  obtain ⟨a0, a1, a2, _⟩ := hK.cells3 (n := w.heap.size) (fun f => f) (x := .int .i64 0) (y := .int .i64 0) (z := .string ⟨#[97]⟩) (by simp [go_sem]) (by simp [go_sem]) (by simp [go_sem]) (by simp [go_sem])
  obtain ⟨b0, b1, b2, _⟩ := hK.cells3 (n := w.heap.size + 1) (fun f => f) (x := .int .i64 0) (y := .int .i64 0) (z := .string ⟨#[98]⟩) (by simp [go_sem]) (by simp [go_sem]) (by simp [go_sem]) (by simp [go_sem])
  obtain ⟨c0, c1, c2, _⟩ := hK.cells3 (n := w.heap.size + 1 + 1) (fun f => f) (x := .int .i64 0) (y := .int .i64 0) (z := .string ⟨#[99]⟩) (by simp [go_sem]) (by simp [go_sem]) (by simp [go_sem]) (by simp [go_sem])
  have G1 : Below w.heap.size w w1 := Below.step (((((Below.refl _ _).alloc' (Nat.le_refl _) _).alloc' (Nat.le_refl _) _).alloc' (Nat.le_refl _) _)) (Nat.le_refl _) hK (fun _ f => f.elim)
  simp at hN
  have N0 := Lib.hid hN
  clear hN hK
  have hB := Nat.le_refl w.heap.size
  have hS : ∀ i, i = w.heap.size + 1 + 1 + 1 → w.heap.size ≤ i := fun i e => by omega
  have GG1 := Lib.hid G1; have HS := Lib.hid hS
  clear G1 hS
  have q0 : ¬ w.heap.size = w.heap.size + 1 + 1 + 1 := by omega
  have q1 : ¬ w.heap.size + 1 = w.heap.size + 1 + 1 + 1 := by omega
  have q2 : ¬ w.heap.size + 1 + 1 = w.heap.size + 1 + 1 + 1 := by omega
  have Q0 := Lib.hid q0; have Q1 := Lib.hid q1; have Q2 := Lib.hid q2
  clear q0 q1 q2
  go_wp2_with fail
  go_region_held3 (fun w' => w'.cell? ⟨w.heap.size, 0, none⟩ = some (.int .i64 0) ∧ w'.cell? ⟨w.heap.size, 1, none⟩ = some (.int .i64 0) ∧ w'.cell? ⟨w.heap.size, 2, none⟩ = some (.string ⟨#[97]⟩) ∧ w'.cell? ⟨w.heap.size + 1, 0, none⟩ = some (.int .i64 0) ∧ w'.cell? ⟨w.heap.size + 1, 1, none⟩ = some (.int .i64 0) ∧ w'.cell? ⟨w.heap.size + 1, 2, none⟩ = some (.string ⟨#[98]⟩) ∧ w'.cell? ⟨w.heap.size + 1 + 1, 0, none⟩ = some (.int .i64 0) ∧ w'.cell? ⟨w.heap.size + 1 + 1, 1, none⟩ = some (.int .i64 0) ∧ w'.cell? ⟨w.heap.size + 1 + 1, 2, none⟩ = some (.string ⟨#[99]⟩)) (first | go_keep | (go_split_ands; exact ⟨hKn.cell (by assumption) (by first | exact Q0.out | exact fun f => f), hKn.cell (by assumption) (by first | exact Q0.out | exact fun f => f), hKn.cell (by assumption) (by first | exact Q0.out | exact fun f => f), hKn.cell (by assumption) (by first | exact Q1.out | exact fun f => f), hKn.cell (by assumption) (by first | exact Q1.out | exact fun f => f), hKn.cell (by assumption) (by first | exact Q1.out | exact fun f => f), hKn.cell (by assumption) (by first | exact Q2.out | exact fun f => f), hKn.cell (by assumption) (by first | exact Q2.out | exact fun f => f), hKn.cell (by assumption) (by first | exact Q2.out | exact fun f => f)⟩))
    (first
      | (go_at_call 14; refine (all_reads _ _ [mA, mA, mB] ?_).mono ?_; (refine N3.out.kept (S := fun _ => False) ?_ (fun f => f); repeat (first | exact Kept.refl _ _ | apply Kept.alloc)); rintro e w6 ⟨ao, cap, rfl, hR, hnew, hKn⟩; (have R6 := Lib.hid hR); (have KA := Lib.hid hKn); (have GG6 := Lib.hid (Below.step (by repeat (first | exact GG4.out | apply Below.drew | refine Below.alloc' ?_ hB _)) hB hKn (fun _ f => f.elim))); (have N6 := Lib.hid (NetOk.kept (NetOk.kept (S := fun _ => False) N3.out (by repeat (first | exact Kept.refl _ _ | apply Kept.alloc)) (fun f => f)) hKn (fun f => f))); clear hR hnew)
      | (go_at_call 13; refine (len_any _ _ 3 N3.out.many).mono ?_; rintro e w4 ⟨rfl, rfl⟩; (have GG4 := GG3))
      | (go_at_call 18; refine (double_ok _ _ [mA, mB] 0 mA N2.out (by rfl) (by simp)).mono ?_; rintro e w3 ⟨rfl, hN, hKn⟩; (have N3 : Hid (NetOk w3 _ [mA, mA, mB]) := Lib.hid hN); (have GG3 := Lib.hid (Below.step GG2.out hB hKn HS.out)); clear hN)
      | (go_at_call 21; refine (send_ok _ _ [mA] mB N1.out (by simp)).mono ?_; rintro e w2 ⟨rfl, hN, hKn⟩; (have N2 : Hid (NetOk w2 _ [mA, mB]) := Lib.hid hN); (have GG2 := Lib.hid (Below.step GGa.out hB hKn HS.out)); clear hN)
      | (go_at_call 21; refine (send_ok _ _ [] mA ?_ (by simp)).mono ?_; (exact N0.out.kept (Kept.drew (Kept.refl (fun _ => False) _)) (fun f => f)); rintro e wa ⟨rfl, hN, hKn⟩; (have N1 : Hid (NetOk wa _ [mA]) := Lib.hid hN); (have GGa := Lib.hid (Below.step GG1.out.drew hB hKn HS.out)); clear hN)
      | (go_at_call 15; refine (same_yes _ _ _ [mA, mA, mB] ?_ ?_ (by simp)).mono ?_; (first | exact R6.out | exact R6.out.kept (S := fun _ => False) ((Kept.refl (fun _ => False) _).alloc _) (fun _ _ f => f)); (first | exact reads_lit (L := [mA, mA, mB]) (S := fun _ => False) (heap_alloc_new _ _) rfl (Kept.refl (fun _ => False) _) (fun f => f) | exact reads_lit (L := [mA, mA, mB]) (S := fun _ => False) (heap_alloc_new _ _) rfl KA.out (fun f => f)); rintro e w7 ⟨rfl, hKn⟩; (have GG7 := Lib.hid (Below.step (by repeat (first | exact GG6.out | apply Below.drew | refine Below.alloc' ?_ hB _)) hB hKn (fun _ f => f.elim)))))
  all_goals
    have N7 : NetOk w7 (w.heap.size + 1 + 1 + 1) [mA, mA, mB] := by
      first | exact N6.out.kept hKn (fun f => f) | exact (N6.out.kept (S := fun _ => False) ((Kept.refl _ _).alloc _) (fun f => f)).kept hKn (fun f => f)
    have NN7 := Lib.hid N7
    have G7 := Lib.hid GG7.out
    clear hKn N7
    have e0 : w7.cell? ⟨w.heap.size, 0, none⟩ = some (.int .i64 0) := by go_split_ands; assumption
    have e1 : w7.cell? ⟨w.heap.size, 1, none⟩ = some (.int .i64 0) := by go_split_ands; assumption
    have e2 : w7.cell? ⟨w.heap.size, 2, none⟩ = some (.string ⟨#[97]⟩) := by go_split_ands; assumption
    have f0 : w7.cell? ⟨w.heap.size + 1, 0, none⟩ = some (.int .i64 0) := by go_split_ands; assumption
    have f1 : w7.cell? ⟨w.heap.size + 1, 1, none⟩ = some (.int .i64 0) := by go_split_ands; assumption
    have f2 : w7.cell? ⟨w.heap.size + 1, 2, none⟩ = some (.string ⟨#[98]⟩) := by go_split_ands; assumption
    have g0 : w7.cell? ⟨w.heap.size + 1 + 1, 0, none⟩ = some (.int .i64 0) := by go_split_ands; assumption
    have g1 : w7.cell? ⟨w.heap.size + 1 + 1, 1, none⟩ = some (.int .i64 0) := by go_split_ands; assumption
    have g2 : w7.cell? ⟨w.heap.size + 1 + 1, 2, none⟩ = some (.string ⟨#[99]⟩) := by go_split_ands; assumption
    clear a0 a1 a2 b0 b1 b2 c0 c1 c2
    go_wp2_with fail
    refine (take_mA _ _ NN7.out).mono ?_
    rintro e w8 ⟨rfl, hN8, hKn⟩
    have N8 : Hid (NetOk w8 (w.heap.size + 1 + 1 + 1) [mA, mB]) := Lib.hid hN8
    have G8 := Lib.hid (Below.step G7.out hB hKn HS.out)
    have e0 := hKn.cell e0 Q0.out; have e1 := hKn.cell e1 Q0.out; have e2 := hKn.cell e2 Q0.out
    have f0 := hKn.cell f0 Q1.out; have f1 := hKn.cell f1 Q1.out; have f2 := hKn.cell f2 Q1.out
    have g0 := hKn.cell g0 Q2.out; have g1 := hKn.cell g1 Q2.out; have g2 := hKn.cell g2 Q2.out
    have hlt8 := hN8.lt
    have q3 : ¬ w8.heap.size = w.heap.size + 1 + 1 + 1 := by omega
    have Q3 := Lib.hid q3
    have z0 : w.heap.size < w8.heap.size := by omega
    have z1 : w.heap.size + 1 < w8.heap.size := by omega
    have z2 : w.heap.size + 1 + 1 < w8.heap.size := by omega
    clear hN8 hKn q3
    have hs31 := s31
    have hg31 := g31
    go_wp2_with fail
    go_region_held3 (fun w' => w'.cell? ⟨w.heap.size, 0, none⟩ = some (.int .i64 0) ∧ w'.cell? ⟨w.heap.size, 1, none⟩ = some (.int .i64 0) ∧ w'.cell? ⟨w.heap.size, 2, none⟩ = some (.string ⟨#[97]⟩) ∧ w'.cell? ⟨w.heap.size + 1, 0, none⟩ = some (.int .i64 0) ∧ w'.cell? ⟨w.heap.size + 1, 1, none⟩ = some (.int .i64 0) ∧ w'.cell? ⟨w.heap.size + 1, 2, none⟩ = some (.string ⟨#[98]⟩) ∧ w'.cell? ⟨w.heap.size + 1 + 1, 0, none⟩ = some (.int .i64 0) ∧ w'.cell? ⟨w.heap.size + 1 + 1, 1, none⟩ = some (.int .i64 0) ∧ w'.cell? ⟨w.heap.size + 1 + 1, 2, none⟩ = some (.string ⟨#[99]⟩) ∧ w'.cell? ⟨w8.heap.size, 0, none⟩ = some (.int .i64 0) ∧ w'.cell? ⟨w8.heap.size, 1, none⟩ = some (.int .i64 0) ∧ w'.cell? ⟨w8.heap.size, 2, none⟩ = some (.string ⟨#[97]⟩)) (first | go_keep | (go_split_ands; exact ⟨hKn.cell (by assumption) (by first | exact Q0.out | exact fun f => f), hKn.cell (by assumption) (by first | exact Q0.out | exact fun f => f), hKn.cell (by assumption) (by first | exact Q0.out | exact fun f => f), hKn.cell (by assumption) (by first | exact Q1.out | exact fun f => f), hKn.cell (by assumption) (by first | exact Q1.out | exact fun f => f), hKn.cell (by assumption) (by first | exact Q1.out | exact fun f => f), hKn.cell (by assumption) (by first | exact Q2.out | exact fun f => f), hKn.cell (by assumption) (by first | exact Q2.out | exact fun f => f), hKn.cell (by assumption) (by first | exact Q2.out | exact fun f => f), hKn.cell (by assumption) (by first | exact Q3.out | exact fun f => f), hKn.cell (by assumption) (by first | exact Q3.out | exact fun f => f), hKn.cell (by assumption) (by first | exact Q3.out | exact fun f => f)⟩))
      (first
        | (go_at_call 15; refine (same_yes _ _ _ [mB, mC] ?_ ?_ (by simp)).mono ?_; (first | exact R12.out | exact R12.out.kept (S := fun _ => False) ((Kept.refl (fun _ => False) _).alloc _) (fun _ _ f => f)); (first | exact reads_lit (L := [mB, mC]) (S := fun _ => False) (heap_alloc_new _ _) rfl (Kept.refl (fun _ => False) _) (fun f => f) | exact reads_lit (L := [mB, mC]) (S := fun _ => False) (heap_alloc_new _ _) rfl KA2.out (fun f => f)); rintro e w13 ⟨rfl, hKn⟩; (have G13 := Lib.hid (Below.step (by repeat (first | exact G12.out | apply Below.drew | refine Below.alloc' ?_ hB _)) hB hKn (fun _ f => f.elim))))
        | (go_at_call 14; refine (all_reads _ _ [mB, mC] ?_).mono ?_; (refine N10.out.kept (S := fun _ => False) ?_ (fun f => f); repeat (first | exact Kept.refl _ _ | apply Kept.alloc)); rintro e w12 ⟨ao2, cap2, rfl, hR, hnew, hKn⟩; (have R12 := Lib.hid hR); (have KA2 := Lib.hid hKn); (have G12 := Lib.hid (Below.step (by repeat (first | exact G10.out | apply Below.drew | refine Below.alloc' ?_ hB _)) hB hKn (fun _ f => f.elim))); clear hR hnew)
        | (go_at_call 19; refine (lose_no _ _ 2 5 N10.out.many (by omega)).mono ?_; rintro e w11 ⟨rfl, rfl⟩)
        | (go_at_call 19; refine (lose_i _ _ [mA, mB, mC] 0 0 rfl N9.out (by simp)).mono ?_; rintro e w10 ⟨rfl, hN, hKn⟩; (have N10 : Hid (NetOk w10 _ [mB, mC]) := Lib.hid hN); (have G10 := Lib.hid (Below.step G9.out hB hKn HS.out)); clear hN)
        | (go_at_call 21; refine (send_ok _ _ [mA, mB] mC ?_ (by simp)).mono ?_; (exact N8.out.kept (S := fun _ => False) (by repeat (first | exact Kept.refl _ _ | apply Kept.drew | apply Kept.alloc)) (fun f => f)); rintro e w9 ⟨rfl, hN, hKn⟩; (have N9 : Hid (NetOk w9 _ [mA, mB, mC]) := Lib.hid hN); (have G9 := Lib.hid (Below.step (by repeat (first | exact G8.out | apply Below.drew | refine Below.alloc' ?_ hB _)) hB hKn HS.out)); clear hN))
    all_goals
      go_wp2
      go_ret
      exact ⟨rfl, ⟨G13.out.os, G13.out.tape, G13.out.output, G13.out.size, fun k hk _ => G13.out.block k hk⟩⟩
end Go.Proofs.Ytgafedmabaeemaa
