/- A part of the proof. -/
import Derived.Test.YtelhdbkkigehgaaGreatDoorZs4

/- Two steps, field by field: the desk's answer. -/
namespace Go.Proofs.YtelhdbkkigehgaaGreatDoor
open Go.RowKit

theorem s35c : Tryz.prog.stoodInHeld 35 = false := by kernel_rfl
theorem g35c : Tryz.prog.eqGuardType Tryz.prog.depth 35 = false := by kernel_rfl
def eqP (m k : Spn) : Bool := decide (m.tr = k.tr) && (decide (m.id = k.id) && (decide (m.pa = k.pa) && (decide (m.se.toList = k.se.toList) && (decide (m.ho.toList = k.ho.toList) && (decide (m.st = k.st) && (decide (m.du = k.du) && decide (m.no.toList = k.no.toList)))))))
theorem bytesP_ext {a b : ByteArray} (h : a.toList = b.toList) : a = b := by
  rw [ByteArray.toList_eq, ByteArray.toList_eq] at h
  cases a; cases b
  simpa using h
theorem eqP_iff (m k : Spn) : eqP m k = true ↔ m = k := by
  constructor
  · intro h
    simp only [eqP, Bool.and_eq_true, decide_eq_true_eq] at h
    obtain ⟨h0, h1, h2, h3, h4, h5, h6, h7⟩ := h
    cases m; cases k
    simp only at h0 h1 h2 h3 h4 h5 h6 h7
    rw [h0, h1, h2, bytesP_ext h3, bytesP_ext h4, h5, h6, bytesP_ext h7]
  · rintro rfl; simp [eqP]
abbrev agP (m : Spn) : Value := .agg #[.int .i64 m.tr, .int .i64 m.id, .int .i64 m.pa, .string m.se, .string m.ho, .int .i64 m.st, .int .i64 m.du, .string m.no]
set_option maxHeartbeats 2000000 in
theorem eql35 (m k : Spn) (w : World) : (binOp .eql 35 (agP m) (agP k)).run Tryz.prog w = .ok (.bool (eqP m k)) w := by
  have q := s35c
  by_cases a0 : m.tr = k.tr
  · by_cases a1 : m.id = k.id
    · by_cases a2 : m.pa = k.pa
      · by_cases a3 : m.se.toList = k.se.toList
        · by_cases a4 : m.ho.toList = k.ho.toList
          · by_cases a5 : m.st = k.st
            · by_cases a6 : m.du = k.du
              · by_cases a7 : m.no.toList = k.no.toList <;> simp [go_sem, eqP, q, a0, a1, a2, a3, a4, a5, a6, a7]
              · simp [go_sem, eqP, q, a0, a1, a2, a3, a4, a5, a6]
            · simp [go_sem, eqP, q, a0, a1, a2, a3, a4, a5]
          · simp [go_sem, eqP, q, a0, a1, a2, a3, a4]
        · simp [go_sem, eqP, q, a0, a1, a2, a3]
      · simp [go_sem, eqP, q, a0, a1, a2]
    · simp [go_sem, eqP, q, a0, a1]
  · simp [go_sem, eqP, q, a0]
theorem neq35_same (m : Spn) (w : World) : (binOp .neq 35 (agP m) (agP m)).run Tryz.prog w = .ok (.bool false) w := by
  have q := s35c
  simp [go_sem, q]
/-- A truth is told; if it is 'true', this holds. -/
def Tells (e : Ending) (Q : Prop) : Prop := ∃ b : Bool, e = .returned (.bool b) ∧ (b = true → Q)
/-- slices.Equal of numbers that can be read. -/
theorem equal_all {w : World} {b1 b2 : Nat} {v1 v2 : Value} {xs ys : List Int} (h1 : KeepR w b1 v1 xs) (h2 : KeepR w b2 v2 ys) (n1 : xs.length ≤ 1000000000) (n2 : ys.length ≤ 1000000000) :
    Calls Tryz.prog 48 #[v1, v2] w fun e w' => e = .returned (.bool (decide (xs = ys))) ∧ Kept (fun _ => False) w w' := by
  obtain ⟨a1, c1, rfl, h1⟩ := h1
  obtain ⟨a2, c2, rfl, h2⟩ := h2
  by_cases hl : xs.length = ys.length
  · by_cases hz : xs.length = 0
    · have e1 : xs = [] := List.eq_nil_of_length_eq_zero hz
      have e2 : ys = [] := List.eq_nil_of_length_eq_zero (by omega)
      subst e1; subst e2
      refine (Tryz.slices_Equal_int_empty a1 a2 c1 0 c2 w (by omega)).mono ?_
      rintro e w' ⟨rfl, rfl⟩
      exact ⟨rfl, Kept.refl _ _⟩
    · have e1 : ¬ xs = [] := fun e => hz (by rw [e]; rfl)
      have e2 : ¬ ys = [] := fun e => hz (by rw [hl, e]; rfl)
      obtain ⟨g, o, rfl, _, h1⟩ := h1.resolve_left e1
      obtain ⟨g2, o2, rfl, _, h2⟩ := h2.resolve_left e2
      refine (Tryz.slices_Equal_int g o xs.length c1 g2 o2 ys.length c2 xs ys w (Nat.le_refl _) (Nat.le_refl _) (by omega) (by omega) (fun j hj => ?_) (fun j hj => ?_)).mono ?_
      · exact h1 j _ (by rw [List.getElem?_eq_getElem hj, List.getD_eq_getElem?_getD, List.getElem?_eq_getElem hj]; rfl)
      · exact h2 j _ (by rw [List.getElem?_eq_getElem hj, List.getD_eq_getElem?_getD, List.getElem?_eq_getElem hj]; rfl)
      · rintro e w' ⟨rfl, q, rfl⟩
        rw [List.take_length, List.take_length]
        refine ⟨?_, kept_drewN w q⟩
        by_cases he : xs = ys <;> simp [he]
  · refine (Tryz.slices_Equal_int_lens a1 a2 xs.length c1 ys.length c2 w hl).mono ?_
    rintro e w' ⟨rfl, rfl⟩
    refine ⟨?_, Kept.refl _ _⟩
    have : ¬ xs = ys := fun e => hl (by rw [e])
    rw [decide_eq_false this]
set_option maxHeartbeats 4000000 in
set_option maxRecDepth 100000 in
theorem same_all {w : World} {b1 b2 : Nat} {ki1 nd1 nn1 ki2 nd2 nn2 : Int} {sp1 sp2 : Spn} {a1 a2 : Option Addr} {c1 c2 : Nat} {ks1 ks2 : List Int} (h1 : KeepR w b1 (.slice a1 ks1.length c1) ks1) (h2 : KeepR w b2 (.slice a2 ks2.length c2) ks2) (n1 : ks1.length ≤ 1000000000) (n2 : ks2.length ≤ 1000000000) :
    Calls Tryz.prog 23 #[Stp.val ⟨ki1, nd1, nn1, sp1, a1, ks1.length, c1⟩, Stp.val ⟨ki2, nd2, nn2, sp2, a2, ks2.length, c2⟩] w fun e w' => Tells e (ki1 = ki2 ∧ nd1 = nd2 ∧ nn1 = nn2 ∧ sp1 = sp2 ∧ ks1 = ks2) ∧ Kept (fun _ => False) w w' := by
  have hs35 := s35c
  have C := Lib.hid (fun (W : World) (K : Kept (fun _ => False) w W) => equal_all (h1.kept K (fun _ _ f => f)) (h2.kept K (fun _ _ f => f)) n1 n2)
  have he := eql35 sp1 sp2
  have EI := Lib.hid (eqP_iff sp1 sp2)
  obtain ⟨q, hq⟩ : ∃ q, eqP sp1 sp2 = q := ⟨_, rfl⟩
  rw [hq] at he
  have HQ := Lib.hid hq
  clear h1 h2 n1 n2 hq
  obtain ⟨tr, id, pa, se, ho, st, du, nt⟩ := sp1
  obtain ⟨tr2, id2, pa2, se2, ho2, st2, du2, nt2⟩ := sp2
  dsimp only [agP] at he
  unfold Stp.val Stp.cells Spn.cells
  by_cases e1 : ki1 = ki2
  · by_cases e2 : nd1 = nd2
    · by_cases e3 : nn1 = nn2
      · cases q
        · go_enter Tryz.func23, Tryz.ntmps23
          go_wp2_with fail
          go_ret
          exact ⟨⟨false, rfl, fun h => by cases h⟩, ((Kept.refl _ w).alloc _).alloc _⟩
        · go_enter Tryz.func23, Tryz.ntmps23
          go_wp2_with fail
          refine (C.out _ (((Kept.refl _ w).alloc _).alloc _)).mono ?_
          rintro e w4 ⟨rfl, k4⟩
          have K4 := Lib.hid ((((Kept.refl _ w).alloc _).alloc _).trans k4 (fun _ _ f => f) (fun _ _ f => f) : Kept (fun _ => False) w w4)
          clear k4
          obtain ⟨r, hr⟩ : ∃ r, decide (ks1 = ks2) = r := ⟨_, rfl⟩
          have HR := Lib.hid hr
          rw [hr]
          clear hr
          go_wp2_with fail
          go_ret
          refine ⟨⟨r, rfl, fun h => ⟨e1, e2, e3, EI.out.1 HQ.out, ?_⟩⟩, K4.out⟩
          have := HR.out
          rw [h] at this
          exact of_decide_eq_true this
      · have f3 : (nn1 == nn2) = false := by simpa using e3
        go_enter Tryz.func23, Tryz.ntmps23
        go_wp2_with fail
        go_ret
        exact ⟨⟨false, rfl, fun h => by cases h⟩, ((Kept.refl _ w).alloc _).alloc _⟩
    · have f3 : (nd1 == nd2) = false := by simpa using e2
      go_enter Tryz.func23, Tryz.ntmps23
      go_wp2_with fail
      go_ret
      exact ⟨⟨false, rfl, fun h => by cases h⟩, ((Kept.refl _ w).alloc _).alloc _⟩
  · have f3 : (ki1 == ki2) = false := by simpa using e1
    go_enter Tryz.func23, Tryz.ntmps23
    go_wp2_with fail
    go_ret
    exact ⟨⟨false, rfl, fun h => by cases h⟩, ((Kept.refl _ w).alloc _).alloc _⟩
end Go.Proofs.YtelhdbkkigehgaaGreatDoor

