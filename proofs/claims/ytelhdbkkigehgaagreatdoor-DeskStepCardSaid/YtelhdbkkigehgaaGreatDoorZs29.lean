/- A part of the proof. -/
import Derived.Test.YtelhdbkkigehgaaGreatDoorZs21
import Derived.Test.YtelhdbkkigehgaaGreatDoorZs22
import Derived.Test.YtelhdbkkigehgaaGreatDoorZs23
import Derived.Test.YtelhdbkkigehgaaGreatDoorZs24
import Derived.Test.YtelhdbkkigehgaaGreatDoorZs25
import Derived.Test.YtelhdbkkigehgaaGreatDoorZs26
import Derived.Test.YtelhdbkkigehgaaGreatDoorZs27
import Derived.Test.YtelhdbkkigehgaaGreatDoorZs28
import Derived.Test.YtelhdbkkigehgaaGreatDoorZs4

/- works(): its parts, as summaries. -/
namespace Go.Proofs.YtelhdbkkigehgaaGreatDoor
open Go.Eng

theorem exA_ok {η : Env} : ExOk η exA := by
  intro f g hg args h c v h' c' he σ w avs H ha
  unfold exA at hg
  cases e87 : Nat.beq f 87 with
  | true =>
    simp only [e87, cond_true, Option.some.injEq] at hg
    subst hg
    have := Nat.eq_of_beq_eq_true e87
    subst this
    obtain ⟨m, hm, he⟩ := memos_ok (f := 87) he
    simp only [List.mem_cons, List.not_mem_nil, or_false] at hm
    rcases hm with rfl
    exact memo_ok mixed noGo smAll_ok w26 he H ha
  | false =>
  simp only [e87, cond_false] at hg
  cases e117 : Nat.beq f 117 with
  | true =>
    simp only [e117, cond_true, Option.some.injEq] at hg
    subst hg
    have := Nat.eq_of_beq_eq_true e117
    subst this
    obtain ⟨m, hm, he⟩ := memos_ok (f := 117) he
    simp only [List.mem_cons, List.not_mem_nil, or_false] at hm
    rcases hm with rfl | rfl | rfl
    · exact memo_ok mixed noGo smAll_ok w19 he H ha
    · exact memo_ok mixed noGo smAll_ok w29 he H ha
    · exact memo_ok mixed noGo smAll_ok w31 he H ha
  | false =>
  simp only [e117, cond_false] at hg
  cases e123 : Nat.beq f 123 with
  | true =>
    simp only [e123, cond_true, Option.some.injEq] at hg
    subst hg
    have := Nat.eq_of_beq_eq_true e123
    subst this
    obtain ⟨m, hm, he⟩ := memos_ok (f := 123) he
    simp only [List.mem_cons, List.not_mem_nil, or_false] at hm
    rcases hm with rfl | rfl | rfl | rfl
    · exact memo_ok mixed noGo smAll_ok w15 he H ha
    · exact memo_ok mixed noGo smAll_ok w17 he H ha
    · exact memo_ok mixed noGo smAll_ok w28 he H ha
    · exact memo_ok mixed noGo smAll_ok w30 he H ha
  | false =>
  simp only [e123, cond_false] at hg
  cases e197 : Nat.beq f 197 with
  | true =>
    simp only [e197, cond_true, Option.some.injEq] at hg
    subst hg
    have := Nat.eq_of_beq_eq_true e197
    subst this
    obtain ⟨m, hm, he⟩ := memos_ok (f := 197) he
    simp only [List.mem_cons, List.not_mem_nil, or_false] at hm
    rcases hm with rfl | rfl
    · exact memo_ok mixed noGo smAll_ok w2 he H ha
    · exact memo_ok mixed noGo smAll_ok w35 he H ha
  | false =>
  simp only [e197, cond_false] at hg
  cases e201 : Nat.beq f 201 with
  | true =>
    simp only [e201, cond_true, Option.some.injEq] at hg
    subst hg
    have := Nat.eq_of_beq_eq_true e201
    subst this
    obtain ⟨m, hm, he⟩ := memos_ok (f := 201) he
    simp only [List.mem_cons, List.not_mem_nil, or_false] at hm
    rcases hm with rfl | rfl
    · exact memo_ok mixed noGo smAll_ok w23 he H ha
    · exact memo_ok mixed noGo smAll_ok w36 he H ha
  | false =>
  simp only [e201, cond_false] at hg
  cases e245 : Nat.beq f 245 with
  | true =>
    simp only [e245, cond_true, Option.some.injEq] at hg
    subst hg
    have := Nat.eq_of_beq_eq_true e245
    subst this
    obtain ⟨m, hm, he⟩ := memos_ok (f := 245) he
    simp only [List.mem_cons, List.not_mem_nil, or_false] at hm
    rcases hm with rfl
    exact memo_ok mixed noGo smAll_ok w22 he H ha
  | false =>
  simp only [e245, cond_false] at hg
  cases e349 : Nat.beq f 349 with
  | true =>
    simp only [e349, cond_true, Option.some.injEq] at hg
    subst hg
    have := Nat.eq_of_beq_eq_true e349
    subst this
    obtain ⟨m, hm, he⟩ := memos_ok (f := 349) he
    simp only [List.mem_cons, List.not_mem_nil, or_false] at hm
    rcases hm with rfl
    exact memo_ok mixed noGo smAll_ok w10 he H ha
  | false =>
  simp only [e349, cond_false] at hg
  cases hg
theorem exB_ok {η : Env} : ExOk η exB := by
  intro f g hg args h c v h' c' he σ w avs H ha
  unfold exB at hg
  cases e87 : Nat.beq f 87 with
  | true =>
    simp only [e87, cond_true, Option.some.injEq] at hg
    subst hg
    have := Nat.eq_of_beq_eq_true e87
    subst this
    obtain ⟨m, hm, he⟩ := memos_ok (f := 87) he
    simp only [List.mem_cons, List.not_mem_nil, or_false] at hm
    rcases hm with rfl
    exact memo_ok mixed noGo smAll_ok w26 he H ha
  | false =>
  simp only [e87, cond_false] at hg
  cases e115 : Nat.beq f 115 with
  | true =>
    simp only [e115, cond_true, Option.some.injEq] at hg
    subst hg
    have := Nat.eq_of_beq_eq_true e115
    subst this
    obtain ⟨m, hm, he⟩ := memos_ok (f := 115) he
    simp only [List.mem_cons, List.not_mem_nil, or_false] at hm
    rcases hm with rfl | rfl
    · exact memo_ok mixed noGo (smMore_ok exA_ok) w3 he H ha
    · exact memo_ok mixed noGo (smMore_ok exA_ok) w37 he H ha
  | false =>
  simp only [e115, cond_false] at hg
  cases e117 : Nat.beq f 117 with
  | true =>
    simp only [e117, cond_true, Option.some.injEq] at hg
    subst hg
    have := Nat.eq_of_beq_eq_true e117
    subst this
    obtain ⟨m, hm, he⟩ := memos_ok (f := 117) he
    simp only [List.mem_cons, List.not_mem_nil, or_false] at hm
    rcases hm with rfl | rfl | rfl
    · exact memo_ok mixed noGo smAll_ok w19 he H ha
    · exact memo_ok mixed noGo smAll_ok w29 he H ha
    · exact memo_ok mixed noGo smAll_ok w31 he H ha
  | false =>
  simp only [e117, cond_false] at hg
  cases e123 : Nat.beq f 123 with
  | true =>
    simp only [e123, cond_true, Option.some.injEq] at hg
    subst hg
    have := Nat.eq_of_beq_eq_true e123
    subst this
    obtain ⟨m, hm, he⟩ := memos_ok (f := 123) he
    simp only [List.mem_cons, List.not_mem_nil, or_false] at hm
    rcases hm with rfl | rfl | rfl | rfl
    · exact memo_ok mixed noGo smAll_ok w15 he H ha
    · exact memo_ok mixed noGo smAll_ok w17 he H ha
    · exact memo_ok mixed noGo smAll_ok w28 he H ha
    · exact memo_ok mixed noGo smAll_ok w30 he H ha
  | false =>
  simp only [e123, cond_false] at hg
  cases e145 : Nat.beq f 145 with
  | true =>
    simp only [e145, cond_true, Option.some.injEq] at hg
    subst hg
    have := Nat.eq_of_beq_eq_true e145
    subst this
    obtain ⟨m, hm, he⟩ := memos_ok (f := 145) he
    simp only [List.mem_cons, List.not_mem_nil, or_false] at hm
    rcases hm with rfl
    exact memo_ok mixed noGo (smMore_ok exA_ok) w11 he H ha
  | false =>
  simp only [e145, cond_false] at hg
  cases e152 : Nat.beq f 152 with
  | true =>
    simp only [e152, cond_true, Option.some.injEq] at hg
    subst hg
    have := Nat.eq_of_beq_eq_true e152
    subst this
    obtain ⟨m, hm, he⟩ := memos_ok (f := 152) he
    simp only [List.mem_cons, List.not_mem_nil, or_false] at hm
    rcases hm with rfl
    exact memo_ok mixed noGo (smMore_ok exA_ok) w24 he H ha
  | false =>
  simp only [e152, cond_false] at hg
  cases e197 : Nat.beq f 197 with
  | true =>
    simp only [e197, cond_true, Option.some.injEq] at hg
    subst hg
    have := Nat.eq_of_beq_eq_true e197
    subst this
    obtain ⟨m, hm, he⟩ := memos_ok (f := 197) he
    simp only [List.mem_cons, List.not_mem_nil, or_false] at hm
    rcases hm with rfl | rfl
    · exact memo_ok mixed noGo smAll_ok w2 he H ha
    · exact memo_ok mixed noGo smAll_ok w35 he H ha
  | false =>
  simp only [e197, cond_false] at hg
  cases e201 : Nat.beq f 201 with
  | true =>
    simp only [e201, cond_true, Option.some.injEq] at hg
    subst hg
    have := Nat.eq_of_beq_eq_true e201
    subst this
    obtain ⟨m, hm, he⟩ := memos_ok (f := 201) he
    simp only [List.mem_cons, List.not_mem_nil, or_false] at hm
    rcases hm with rfl | rfl
    · exact memo_ok mixed noGo smAll_ok w23 he H ha
    · exact memo_ok mixed noGo smAll_ok w36 he H ha
  | false =>
  simp only [e201, cond_false] at hg
  cases e245 : Nat.beq f 245 with
  | true =>
    simp only [e245, cond_true, Option.some.injEq] at hg
    subst hg
    have := Nat.eq_of_beq_eq_true e245
    subst this
    obtain ⟨m, hm, he⟩ := memos_ok (f := 245) he
    simp only [List.mem_cons, List.not_mem_nil, or_false] at hm
    rcases hm with rfl
    exact memo_ok mixed noGo smAll_ok w22 he H ha
  | false =>
  simp only [e245, cond_false] at hg
  cases e349 : Nat.beq f 349 with
  | true =>
    simp only [e349, cond_true, Option.some.injEq] at hg
    subst hg
    have := Nat.eq_of_beq_eq_true e349
    subst this
    obtain ⟨m, hm, he⟩ := memos_ok (f := 349) he
    simp only [List.mem_cons, List.not_mem_nil, or_false] at hm
    rcases hm with rfl
    exact memo_ok mixed noGo smAll_ok w10 he H ha
  | false =>
  simp only [e349, cond_false] at hg
  cases hg
theorem exC_ok {η : Env} : ExOk η exC := by
  intro f g hg args h c v h' c' he σ w avs H ha
  unfold exC at hg
  cases e6 : Nat.beq f 6 with
  | true =>
    simp only [e6, cond_true, Option.some.injEq] at hg
    subst hg
    have := Nat.eq_of_beq_eq_true e6
    subst this
    obtain ⟨m, hm, he⟩ := memos_ok (f := 6) he
    simp only [List.mem_cons, List.not_mem_nil, or_false] at hm
    rcases hm with rfl | rfl | rfl | rfl | rfl | rfl | rfl | rfl | rfl | rfl | rfl | rfl | rfl | rfl | rfl | rfl | rfl | rfl | rfl | rfl | rfl | rfl | rfl
    · exact memo_ok mixed noGo (smMore_ok exB_ok) w0 he H ha
    · exact memo_ok mixed noGo (smMore_ok exB_ok) w1 he H ha
    · exact memo_ok mixed noGo (smMore_ok exB_ok) w4 he H ha
    · exact memo_ok mixed noGo (smMore_ok exB_ok) w5 he H ha
    · exact memo_ok mixed noGo (smMore_ok exB_ok) w6 he H ha
    · exact memo_ok mixed noGo (smMore_ok exB_ok) w7 he H ha
    · exact memo_ok mixed noGo (smMore_ok exB_ok) w8 he H ha
    · exact memo_ok mixed noGo (smMore_ok exB_ok) w9 he H ha
    · exact memo_ok mixed noGo (smMore_ok exB_ok) w12 he H ha
    · exact memo_ok mixed noGo (smMore_ok exB_ok) w13 he H ha
    · exact memo_ok mixed noGo (smMore_ok exB_ok) w14 he H ha
    · exact memo_ok mixed noGo (smMore_ok exB_ok) w16 he H ha
    · exact memo_ok mixed noGo (smMore_ok exB_ok) w18 he H ha
    · exact memo_ok mixed noGo (smMore_ok exB_ok) w20 he H ha
    · exact memo_ok mixed noGo (smMore_ok exB_ok) w21 he H ha
    · exact memo_ok mixed noGo (smMore_ok exB_ok) w25 he H ha
    · exact memo_ok mixed noGo (smMore_ok exB_ok) w27 he H ha
    · exact memo_ok mixed noGo (smMore_ok exB_ok) w32 he H ha
    · exact memo_ok mixed noGo (smMore_ok exB_ok) w33 he H ha
    · exact memo_ok mixed noGo (smMore_ok exB_ok) w34 he H ha
    · exact memo_ok mixed noGo (smMore_ok exB_ok) w38 he H ha
    · exact memo_ok mixed noGo (smMore_ok exB_ok) w39 he H ha
    · exact memo_ok mixed noGo (smMore_ok exB_ok) w40 he H ha
  | false =>
  simp only [e6, cond_false] at hg
  cases hg
end Go.Proofs.YtelhdbkkigehgaaGreatDoor

/- works(): it returns true, and nothing that was there turns. -/
namespace Go.Proofs.YtelhdbkkigehgaaGreatDoor
open Go.Eng Go.RowKit

noncomputable section
def pow10 : List AV := [.int .u64 (.ofNat 1), .int .u64 (.ofNat 10), .int .u64 (.ofNat 100), .int .u64 (.ofNat 1000), .int .u64 (.ofNat 10000), .int .u64 (.ofNat 100000), .int .u64 (.ofNat 1000000), .int .u64 (.ofNat 10000000), .int .u64 (.ofNat 100000000), .int .u64 (.ofNat 1000000000), .int .u64 (.ofNat 10000000000), .int .u64 (.ofNat 100000000000), .int .u64 (.ofNat 1000000000000), .int .u64 (.ofNat 10000000000000), .int .u64 (.ofNat 100000000000000), .int .u64 (.ofNat 1000000000000000), .int .u64 (.ofNat 10000000000000000), .int .u64 (.ofNat 100000000000000000), .int .u64 (.ofNat 1000000000000000000), .int .u64 (.ofNat 10000000000000000000)]
/-- Two variables are read: the error that a number that cannot be read gives, and the powers of ten. -/
def hW : Heap := Tr.set deep (Tr.set deep .nil 3 (some (.ro 79 [.sym 3]))) 5 (some (.ro 496 pow10))
end

set_option maxRecDepth 1000000 in
theorem works_run : isRes 8 hW (.bool true) (callE Tryz.prog (smMore exC) 100000 (.fn 5) [] hW 8) = true := by decide +kernel

theorem works_any {η : Env} {w : World} (h0 : RoHeap Tryz.prog η hW w) : Calls Tryz.prog 5 #[] w fun e w' => e = .returned (.bool true) ∧ Eng.Kept (fun _ => False) w w' := by
  obtain ⟨h', c', he, hr⟩ := isRes_ok works_run
  have s0 := start_ok h0
  rw [show Tryz.prog.globals.size = 8 by kernel_rfl] at s0
  refine (calls_of_callE mixed noGo (smMore_ok exC_ok) he Tryz.func5 rfl s0 (avs := []) rfl).mono ?_
  rintro e w' ⟨u, σ', rfl, q, W⟩
  rw [conc_bool] at q
  subst q
  exact ⟨rfl, end_ok h0 (by rw [show Tryz.prog.globals.size = 8 by kernel_rfl]; exact W) fun n o hn => ro_names (h0 n o hn).1 hn (by rw [show Tryz.prog.globals.size = 8 by kernel_rfl]; exact hr)⟩
end Go.Proofs.YtelhdbkkigehgaaGreatDoor

/- A desk's answers: of one that is none, of one that was not made, to too long a line; of a new one to some lines. -/
namespace Go.Proofs.YtelhdbkkigehgaaGreatDoor
open Go.Eng Go.RowKit

def erV (n : Int) : Value := .tuple #[.string ⟨#[]⟩, .int .i64 n]
theorem do_nil (s : ByteArray) (w : World) : Calls Tryz.prog 6 #[.pointer none, .string s] w fun e w' => e = .returned (erV 1) ∧ w' = w := by
  go_enter Tryz.func6, Tryz.ntmps6
  go_wp2
  go_ret2
  exact ⟨rfl, rfl⟩
theorem do_un (s : ByteArray) (p : Nat) (w : World) (h : w.cell? ⟨p, 0, none⟩ = some (.bool false)) : Calls Tryz.prog 6 #[.pointer (some ⟨p, 0, none⟩), .string s] w fun e w' => e = .returned (erV 1) ∧ w' = w := by
  go_enter Tryz.func6, Tryz.ntmps6
  go_wp2
  go_ret2
  exact ⟨rfl, rfl⟩
theorem do_long (s : ByteArray) (p : Nat) (w : World) (h : w.cell? ⟨p, 0, none⟩ = some (.bool true)) (hs : (4096 : Int) < (s.size : Int)) : Calls Tryz.prog 6 #[.pointer (some ⟨p, 0, none⟩), .string s] w fun e w' => e = .returned (erV 3) ∧ w' = w := by
  go_enter Tryz.func6, Tryz.ntmps6
  go_wp2
  go_ret2
  exact ⟨rfl, rfl⟩

/-! ### a new desk -/
noncomputable section
def hD : Heap := Tr.set deep hW 8 (some (.ro 26 [.bool true, .nilp]))
def sD (p : Nat) : Sig := fun n => if n < 8 then some ⟨n, 0, 0⟩ else if n = 8 then some ⟨p, 0, 0⟩ else none
end
theorem hW_get {n : Nat} {o : AObj} (h : hW.get n = some o) : (n = 3 ∧ o = .ro 79 [.sym 3]) ∨ (n = 5 ∧ o = .ro 496 pow10) := by
  unfold hW at h
  by_cases e5 : n = 5
  · subst e5
    rw [Tr.get_set_same deep _ 5 _ (by decide +kernel)] at h
    cases h; exact .inr ⟨rfl, rfl⟩
  · rw [Tr.get_set_other deep _ 5 n _ (Ne.symm e5)] at h
    by_cases e3 : n = 3
    · subst e3
      rw [Tr.get_set_same deep _ 3 _ (by decide +kernel)] at h
      cases h; exact .inl ⟨rfl, rfl⟩
    · rw [Tr.get_set_other deep _ 3 n _ (Ne.symm e3), Tr.get_nil] at h; cases h
theorem hD_get {n : Nat} {o : AObj} (h : hD.get n = some o) : (hW.get n = some o ∧ n < 8) ∨ (n = 8 ∧ o = .ro 26 [.bool true, .nilp]) := by
  unfold hD at h
  by_cases e : n = 8
  · subst e
    rw [Tr.get_set_same deep _ 8 _ (by decide +kernel)] at h
    cases h; exact .inr ⟨rfl, rfl⟩
  · rw [Tr.get_set_other deep _ 8 n _ (Ne.symm e)] at h
    refine .inl ⟨h, ?_⟩
    rcases hW_get h with ⟨rfl, _⟩ | ⟨rfl, _⟩ <;> decide
theorem conc_pow {σ : Sig} {η η' : Env} : concs σ η pow10 = concs σ η' pow10 := by
  unfold pow10
  simp only [concs, conc]
theorem ro_at {η : Env} {w : World} {p : Nat} (R : RoHeap Tryz.prog η hW w) (hp : w.heap[p]? = some (.cells #[.bool true, .pointer none] 26 (0, 0))) (h8 : p ≠ 3 ∧ p ≠ 5) : RoS Tryz.prog ⟨η.val, fun n => w.heap[n]?⟩ (sD p) hD 9 w := by
  have hg : Tryz.prog.globals.size = 8 := by kernel_rfl
  refine ⟨fun g h => by rw [hg] at h; simp [sD, h], fun n hn => by simp [sD, show ¬ n < 8 by omega, show ¬ n = 8 by omega], fun n o hn => ?_, fun a b x y ha hb hx hy e => ?_⟩
  · rcases hD_get hn with ⟨h, hlt⟩ | ⟨rfl, rfl⟩
    · obtain ⟨_, t, cs, rfl, c, fr, vs, t0, g1, g2, g3, g4, g5⟩ := R n o h
      refine ⟨n, by simp [sD, hlt], t, cs, rfl, c, fr, vs, t0, g1, fun σ => ?_, g3, g4, g1⟩
      rcases hW_get h with ⟨rfl, e⟩ | ⟨rfl, e⟩
      · cases e
        rw [← g2 σ]
        simp only [concs, conc]
      · cases e
        rw [← g2 σ]
        exact conc_pow
    · exact ⟨p, by simp [sD], 26, _, rfl, _, _, [.bool true, .pointer none], 26, hp, fun σ => rfl, fun i v hi => by simpa using hi, rfl, hp⟩
  · obtain ⟨oa, ha⟩ := Option.isSome_iff_exists.1 ha
    obtain ⟨ob, hb⟩ := Option.isSome_iff_exists.1 hb
    have la : (a = 3 ∨ a = 5) ∨ a = 8 := by
      rcases hD_get ha with ⟨h, _⟩ | ⟨h, _⟩
      · rcases hW_get h with ⟨rfl, _⟩ | ⟨rfl, _⟩ <;> simp
      · exact .inr h
    have lb : (b = 3 ∨ b = 5) ∨ b = 8 := by
      rcases hD_get hb with ⟨h, _⟩ | ⟨h, _⟩
      · rcases hW_get h with ⟨rfl, _⟩ | ⟨rfl, _⟩ <;> simp
      · exact .inr h
    unfold sD at hx hy
    rcases la with la | rfl
    · rw [if_pos (by omega)] at hx; cases hx
      rcases lb with lb | rfl
      · rw [if_pos (by omega)] at hy; cases hy; exact e
      · simp at hy; subst hy; simp at e; omega
    · simp at hx; subst hx
      rcases lb with lb | rfl
      · rw [if_pos (by omega)] at hy; cases hy; simp at e; omega
      · rfl
set_option maxRecDepth 1000000 in
theorem run_sync : isRes 9 hD (.tup [.str [], I 4]) (callE Tryz.prog smAll 100000 (.fn 6) [.ptr 8 0, .str [115, 121, 110, 99, 32, 48]] hD 9) = true := by decide +kernel
set_option maxRecDepth 1000000 in
theorem run_get : isRes 9 hD (.tup [.str [], I 310]) (callE Tryz.prog smAll 100000 (.fn 6) [.ptr 8 0, .str [103, 101, 116, 32, 51]] hD 9) = true := by decide +kernel
set_option maxRecDepth 1000000 in
theorem run_audit : isRes 9 hD (.tup [.str [], I 310]) (callE Tryz.prog smAll 100000 (.fn 6) [.ptr 8 0, .str [97, 117, 100, 105, 116]] hD 9) = true := by decide +kernel
theorem do_new {η : Env} {w : World} {p : Nat} {l : List Nat} {n : Nat} (he : isRes 9 hD (.tup [.str [], I n]) (callE Tryz.prog smAll 100000 (.fn 6) [.ptr 8 0, .str l] hD 9) = true) (hl : allB l = true) (R : RoHeap Tryz.prog η hW w) (hp : w.heap[p]? = some (.cells #[.bool true, .pointer none] 26 (0, 0))) (h8 : p ≠ 3 ∧ p ≠ 5) :
    Calls Tryz.prog 6 #[.pointer (some ⟨p, 0, none⟩), .string (bs l)] w fun e w' => e = .returned (erV n) ∧ Eng.Kept (fun _ => False) w w' := by
  have H := ro_at R hp h8
  refine calls_ro mixed noGo smAll_ok he Tryz.func6 rfl H (fun m o hm => ?_) (avs := [.pointer (some ⟨p, 0, none⟩), .string (bs l)]) ?_ (u := erV n) (fun σ => ?_)
  · rcases hD_get hm with ⟨_, h⟩ | ⟨h, _⟩ <;> omega
  · exact concs_cons.2 ⟨_, _, conc_ptr.2 ⟨⟨p, 0, 0⟩, by simp [sD], rfl⟩, concs_cons.2 ⟨_, _, conc_str.2 ⟨hl, rfl⟩, concs_nil, rfl⟩, rfl⟩
  · simp only [conc, concs]
    rfl
end Go.Proofs.YtelhdbkkigehgaaGreatDoor

