/- A part of the proof. -/
import Derived.Test.YthknocapablpaaaGreatDoorProg
import Derived.Laws.RangeString
import Derived.Shelf.Strconv.Itoa0
import Derived.Ground.NamesProg
import Derived.LoopN
import Derived.Laws.BytesArg
import Derived.Lib.Builder
import Derived.Lib.Walk
import Derived.Laws.Externs
import Derived.Shelf.Strings.Builder1
import Derived.Lib.AppendStr
import Derived.Test.YthknocapablpaaaGreatDoorAg8
import Derived.Test.YthknocapablpaaaGreatDoorAg6
import Derived.Test.YthknocapablpaaaGreatDoorAg5

/- frames.Frame. -/
namespace Go.Proofs.YthknocapablpaaaGreatDoor
open Go.RowKit
set_option maxRecDepth 100000

/-- A row of n bytes of our own. -/
def OwnB (w0 w : World) (v : Value) (n : Nat) : Prop := ∃ l : List Int, l.length = n ∧ w.ownsRow w0.heap.size 5 1 v n (l.map (Value.int .u8)) ∧ Kept (fun _ => False) w0 w
theorem OwnB.kept {w0 w w' : World} {v : Value} {n : Nat} (h : OwnB w0 w v n) (K : Kept (fun _ => False) w w') : OwnB w0 w' v n := by
 obtain ⟨l, h1, h2, h3⟩ := h
 exact ⟨l, h1, ownr_kept h2 K (fun _ _ f => f), h3.trans K (fun _ _ f => f) (fun _ _ f => f)⟩
/-- Three bytes more. -/
theorem app_three {w0 W : World} {v : Value} {n : Nat} (h : OwnB w0 W v n) (hn : n ≤ 1000000) (a b c : Int) : ∃ v' w',
  (Builtin.append_ #[48, 48] 48 #[v, .slice (some ⟨W.heap.size, 0, none⟩) 3 3]).run Tryz.prog (W.alloc (.cells #[.int .u8 a, .int .u8 b, .int .u8 c] 5)) = .ok v' w' ∧ OwnB w0 w' v' (n + 3) := by
 obtain ⟨i0, hi0, z0, s0, b0⟩ := info_5
 obtain ⟨l, h1, h2, K⟩ := h
 have K1 : Kept (fun _ => False) W (W.alloc (.cells #[.int .u8 a, .int .u8 b, .int .u8 c] 5)) := (Kept.refl _ _).alloc _
 have OW := ownr_kept h2 K1 (fun _ _ f => f)
 have ks := K.size
 obtain ⟨v', w5, hrun, hown, hgrow, _⟩ := run_append_own_at (P := Tryz.prog) (W.alloc (.cells #[.int .u8 a, .int .u8 b, .int .u8 c] 5)) w0.heap.size 48 48 5 i0 _ 1 1 Tryz.underlying48 hi0 z0 s0 b0 rfl (by decide) v n _ OW ⟨W.heap.size, 0, none⟩ 3 3 [.int .u8 a, .int .u8 b, .int .u8 c] rfl (fun j u hj => by
  rw [add_mid]
  have hj0 : j = 0 ∨ j = 1 ∨ j = 2 := by
   have := (List.getElem?_eq_some_iff.1 hj).1
   simp at this
   omega
  rcases hj0 with rfl | rfl | rfl <;> (simp at hj; subst hj; simp [go_sem])) (by simp [Value.oneCell']) (by unfold maxLen; omega) (by omega) (by simp; omega)
 refine ⟨v', w5, hrun, l ++ [a, b, c], by simp [h1], ?_, (K.alloc _).grown hgrow (fun k hk hlt => by have := ownr_from OW hk; omega)⟩
 rw [List.map_append]
 exact hown
theorem app_str {w0 W : World} {v : Value} {n : Nat} (h : OwnB w0 W v n) (s : ByteArray) (hn : n ≤ 1000000) (hs : s.size ≤ 1000000) : ∃ v' w',
  (Builtin.append_ #[48, 9] 48 #[v, .string s]).run Tryz.prog W = .ok v' w' ∧ OwnB w0 w' v' (n + s.size) := by
 obtain ⟨i0, hi0, z0, s0, b0⟩ := info_5
 obtain ⟨l, h1, h2, K⟩ := h
 obtain ⟨v', w', hrun, hown, hgrow, _⟩ := Lib.run_append_own_string (P := Tryz.prog) W w0.heap.size 48 9 48 5 i0 Tryz.underlying48 Tryz.underlying9 hi0 z0 s0 b0 v n _ h2 s (by unfold maxLen; omega) (by omega) K.size
 refine ⟨v', w', hrun, l ++ s.data.toList.map (fun b => (b.toNat : Int)), ?_, ?_, K.grown hgrow (fun k hk hlt => by have := ownr_from h2 hk; omega)⟩
 ·rw [List.length_append, h1, List.length_map]
  rfl
 ·rw [List.map_append, List.map_map]
  exact hown
theorem app_one {w0 W : World} {v : Value} {n : Nat} (h : OwnB w0 W v n) (hn : n ≤ 1000000) (b : Int) : ∃ v' w',
  (Builtin.append_ #[48, 48] 48 #[v, .slice (some ⟨W.heap.size, 0, none⟩) 1 1]).run Tryz.prog (W.alloc (.cells #[.int .u8 b] 5)) = .ok v' w' ∧ OwnB w0 w' v' (n + 1) := by
 obtain ⟨l, h1, h2, K⟩ := h
 obtain ⟨p, hp⟩ := app_byte h2 hn K
 exact ⟨_, _, (hp b).1, l ++ [b], by simp [h1], (hp b).2.1, (hp b).2.2⟩
theorem conv_own {w0 W : World} {v : Value} {n : Nat} (h : OwnB w0 W v n) (hn : 0 < n) : ∃ s : ByteArray, s.size = n ∧ (convert 48 9 v).run Tryz.prog W = .ok (.string s) W ∧ Kept (fun _ => False) w0 W := by
 obtain ⟨l, h1, h2, K⟩ := h
 exact ⟨_, by rw [strOfNums_size, h1], conv_row h2 h1 hn, K⟩
set_option maxHeartbeats 4000000 in
theorem frame_any (s : ByteArray) (hs : s.size ≤ 16384) (w : World) : Calls Tryz.prog 169 #[.string s] w fun e w' => (∃ f : ByteArray, f.size = 8 + s.size ∧ e = .returned (.tuple #[.string f, .int .i64 0])) ∧ Kept (fun _ => False) w w' := by
 obtain ⟨i0, hi0, z0, s0, b0⟩ := info_5
 obtain ⟨n, hn⟩ : ∃ n, s.size = n := ⟨_, rfl⟩
 obtain ⟨w1, hmk, own1, g1⟩ := run_makeSlice_owned (P := Tryz.prog) w w.heap.size 48 5 i0 _ 1 Tryz.underlying48 hi0 z0 s0 .i64 .i64 (8 + n) (by omega) (by rw [b0]; omega) (by unfold maxLen; omega) (Nat.le_refl _)
 have O1 : OwnB w w1 (.slice (some ⟨w.heap.size, 0, none⟩) 0 (8 + n)) 0 := ⟨[], rfl, own1, (grown_kept g1).mono (fun _ _ f => by cases f)⟩
 have f1 : ¬ ((n : Int) > 16384) := by omega
 have f2 : IntKind.i64.wrap (8 + (n : Int)) = ((8 + n : Nat) : Int) := by rw [IntKind.wrap_i64]; omega
 have SS := Lib.hid (sums_any s)
 rw [← hn] at hmk f1 f2 O1
 have OO := Lib.hid O1
 rw [show ((8 + s.size : Nat) : Int) = 8 + (s.size : Int) by omega] at hmk f2
 clear own1 g1 O1 hn
 obtain ⟨v2, w2, h2, O2⟩ := app_three OO.out (by omega) 2 ((s.size : Int) / 256) ((s.size : Int) % 256)
 obtain ⟨v3, w3, h3, O3⟩ := app_str O2 s (by omega) (by omega)
 have OO3 := Lib.hid O3
 clear O2 O3
 go_enter Tryz.func169, Tryz.ntmps169
 go_wp2_with (first
  | (at_builtin; refine Lib.wpList_append_run _ rfl _ _ _ _ rfl _ _ rfl rfl _ _ h2 ?_)
  | (at_builtin; refine Lib.wpList_append_run _ rfl _ _ _ _ rfl _ _ rfl rfl _ _ h3 ?_)
  | (go_at_call 252; refine (SS.out _ (by omega)).mono ?_; rintro e w4 ⟨⟨x, x0, x1, rfl⟩, k4⟩; (have O4 := Lib.hid (OO3.out.kept k4)); clear k4)
  | (go_at_call 251; refine (bytes_any x x0 x1 _).mono ?_; rintro e w5 ⟨⟨f, hf, rfl⟩, k5⟩; (obtain ⟨v6, w6, h6, O6⟩ := app_str (O4.out.kept k5) f (by omega) (by omega)); (obtain ⟨v7, w7, h7, O7⟩ := app_one O6 (by omega) 3); (obtain ⟨F, hF, cv, K7⟩ := conv_own O7 (by omega)); (have KK7 := Lib.hid K7); clear k5 O6 O7 K7)
  | (at_builtin; refine Lib.wpList_append_run _ rfl _ _ _ _ rfl _ _ rfl rfl _ _ h6 ?_)
  | (at_builtin; refine Lib.wpList_append_run _ rfl _ _ _ _ rfl _ _ rfl rfl _ _ h7 ?_))

 go_ret2
 exact ⟨⟨F, by omega, rfl⟩, KK7.out⟩
end Go.Proofs.YthknocapablpaaaGreatDoor

/- spans.Name of any string, by the library's ContainsFunc. -/
namespace Go.Proofs.YthknocapablpaaaGreatDoor
open Go.RowKit Go.Shelf Go.Lib

theorem nil_iff {x : ByteArray} : x.toList = [] ↔ x.size = 0 := by
 have hs : x.toList.length = x.size := by rw [ByteArray.toList_eq]; exact Array.length_toList
 rw [← hs]; exact List.length_eq_zero_iff.symm
def oddP (c : Nat) : Bool := decide (c ≤ 32) || decide (126 < c)
theorem odd_all (c : Nat) (w : World) : Calls Tryz.prog 138 #[.int .i32 (c : Int)] w fun e w' => e = .returned (.bool (oddP c)) ∧ ∃ q, w' = w.drewN q := by
 unfold oddP
 by_cases h1 : (c : Int) ≤ 32
 ·go_enter Tryz.func138, Tryz.ntmps138
  go_wp2
  go_ret
  have e : decide (c ≤ 32) = true := by simp; omega
  exact ⟨by rw [e]; rfl, 0, rfl⟩
 ·by_cases h2 : (126 : Int) < (c : Int)
  ·go_enter Tryz.func138, Tryz.ntmps138
   go_wp2
   go_ret
   have e : decide (126 < c) = true := by simp; omega
   exact ⟨by rw [e, Bool.or_true]; rfl, 0, rfl⟩
  ·go_enter Tryz.func138, Tryz.ntmps138
   go_wp2
   go_ret
   have e1 : decide (c ≤ 32) = false := by simp; omega
   have e2 : decide (126 < c) = false := by simp; omega
   exact ⟨by rw [e1, e2]; rfl, 0, rfl⟩
theorem contains_all (s : ByteArray) (w : World) : Calls Tryz.prog 139 #[.string s, .func (.func 138) #[] #[]] w fun e w' => e = .returned (.bool (decide (0 ≤ Lib.idxFunc oddP true s))) ∧ Kept (fun _ => False) w w' := by
 have h := Any.strings_ContainsFunc Tryz.l17 138 #[] (enters_of Tryz.func138 (by kernel_rfl) rfl) oddP s w (fun W x _ => odd_all x W)
 change Calls Tryz.prog 139 _ _ _ at h
 exact h.mono fun e w' ⟨he, hb⟩ => ⟨he, hb.os, hb.tape, hb.output, hb.size, fun k hk _ => hb.block k hk⟩
def nameB (s : ByteArray) : Bool := decide (s.size ≠ 0) && decide (s.size ≤ 12) && !decide (0 ≤ Lib.idxFunc oddP true s)
set_option maxRecDepth 100000 in
theorem name_all (s : ByteArray) (hs : s.size ≤ 9223372036854775807) (w : World) : Calls Tryz.prog 76 #[.string s] w fun e w' => e = .returned (.bool (nameB s)) ∧ Kept (fun _ => False) w w' := by
 have C := Lib.hid (contains_all s)
 obtain ⟨B, hB⟩ : ∃ B, decide (0 ≤ Lib.idxFunc oddP true s) = B := ⟨_, rfl⟩
 rw [hB] at C
 unfold nameB
 rw [hB]
 clear hB
 by_cases h0 : s.size = 0
 ·have e2 : (s.toList == ([] : List UInt8)) = true := by
   have : s.toList = [] := nil_iff.2 h0
   simpa using this
  have e3 : decide (s.size ≠ 0) = false := by simp [h0]
  rw [e3]
  clear h0 e3
  go_enter Tryz.func76, Tryz.ntmps76
  go_wp2
  go_ret
  exact ⟨rfl, Kept.refl _ w⟩
 ·have e2 : (s.toList == ([] : List UInt8)) = false := by
   have : ¬ s.toList = [] := fun e => h0 (nil_iff.1 e)
   simpa using this
  have e3 : decide (s.size ≠ 0) = true := by simp [h0]
  rw [e3]
  by_cases h1 : (s.size : Int) ≤ 12
  ·have e4 : decide (s.size ≤ 12) = true := by simp; omega
   rw [e4]
   clear h0 e3 e4
   go_enter Tryz.func76, Tryz.ntmps76
   go_wp2_with (go_at_call 139; refine (C.out _).mono ?_; rintro e w4 ⟨rfl, k4⟩)
   go_ret
   exact ⟨by cases B <;> rfl, k4⟩
  ·have e4 : decide (s.size ≤ 12) = false := by simp; omega
   rw [e4]
   clear h0 e3 e4
   go_enter Tryz.func76, Tryz.ntmps76
   go_wp2
   go_ret
   exact ⟨rfl, Kept.refl _ w⟩
end Go.Proofs.YthknocapablpaaaGreatDoor

/- Spans. -/
namespace Go.Proofs.YthknocapablpaaaGreatDoor
open Go.RowKit

structure Spn where
 tr : Int
 id : Int
 pa : Int
 se : ByteArray
 ho : ByteArray
 st : Int
 du : Int
 no : ByteArray
 deriving Inhabited
def Spn.cells (m : Spn) : List Value := [.int .i64 m.tr, .int .i64 m.id, .int .i64 m.pa, .string m.se, .string m.ho, .int .i64 m.st, .int .i64 m.du, .string m.no]
end Go.Proofs.YthknocapablpaaaGreatDoor

/- spans.Check of any span. -/
namespace Go.Proofs.YthknocapablpaaaGreatDoor
set_option maxRecDepth 100000
open Go.RowKit

def aggS (m : Spn) : Value := .agg #[.int .i64 m.tr, .int .i64 m.id, .int .i64 m.pa, .string m.se, .string m.ho, .int .i64 m.st, .int .i64 m.du, .string m.no]
def numsV (p : Nat) : Value := .agg #[.pointer (some ⟨p, 0, none⟩), .int .i64 1, .int .i64 2147483647, .pointer (some ⟨p, 1, none⟩), .int .i64 1, .int .i64 2147483647, .pointer (some ⟨p, 2, none⟩), .int .i64 0, .int .i64 2147483647, .pointer (some ⟨p, 5, none⟩), .int .i64 0, .int .i64 1073741824, .pointer (some ⟨p, 6, none⟩), .int .i64 0, .int .i64 1073741824]

theorem ix0 (p : Nat) (W : World) : (Instr.index 187 (numsV p) (.int .i64 0)).run Tryz.prog W = .ok (.agg #[.pointer (some ⟨p, 0, none⟩), .int .i64 1, .int .i64 2147483647]) W := by kernel_rfl
theorem ix1 (p : Nat) (W : World) : (Instr.index 187 (numsV p) (.int .i64 1)).run Tryz.prog W = .ok (.agg #[.pointer (some ⟨p, 1, none⟩), .int .i64 1, .int .i64 2147483647]) W := by kernel_rfl
theorem ix2 (p : Nat) (W : World) : (Instr.index 187 (numsV p) (.int .i64 2)).run Tryz.prog W = .ok (.agg #[.pointer (some ⟨p, 2, none⟩), .int .i64 0, .int .i64 2147483647]) W := by kernel_rfl
theorem ix3 (p : Nat) (W : World) : (Instr.index 187 (numsV p) (.int .i64 3)).run Tryz.prog W = .ok (.agg #[.pointer (some ⟨p, 5, none⟩), .int .i64 0, .int .i64 1073741824]) W := by kernel_rfl
theorem ix4 (p : Nat) (W : World) : (Instr.index 187 (numsV p) (.int .i64 4)).run Tryz.prog W = .ok (.agg #[.pointer (some ⟨p, 6, none⟩), .int .i64 0, .int .i64 1073741824]) W := by kernel_rfl
set_option maxHeartbeats 4000000 in
set_option maxRecDepth 100000 in
theorem numbers_any (p : Nat) (w : World) : Calls Tryz.prog 101 #[.pointer (some ⟨p, 0, none⟩)] w fun e w' => e = .returned (numsV p) ∧ Kept (fun _ => False) w w' := by
 go_enter Tryz.func101, Tryz.ntmps101
 go_wp2
 go_region
 all_goals go_wp2
 refine bodyPost_ret (v := _) (by simp [results, Tryz.results101, go_sem]; try rfl) rfl ?_
 exact ⟨rfl, ((Kept.refl _ w).alloc _).drew⟩

def offJ : Nat → Nat | 0 => 0 | 1 => 1 | 2 => 2 | 3 => 5 | _ => 6
def leastJ : Nat → Int | 0 => 1 | 1 => 1 | _ => 0
def mostJ : Nat → Int | 0 => 2147483647 | 1 => 2147483647 | 2 => 2147483647 | _ => 1073741824
def numJ (m : Spn) : Nat → Int | 0 => m.tr | 1 => m.id | 2 => m.pa | 3 => m.st | _ => m.du
def okJ (m : Spn) (j : Nat) : Bool := decide (leastJ j ≤ numJ m j) && decide (numJ m j ≤ mostJ j)
def chkB (m : Spn) : Bool := okJ m 0 && okJ m 1 && okJ m 2 && okJ m 3 && okJ m 4 && nameB m.se && nameB m.ho && decide (m.no.size ≤ 24)
def errN : Bool → Int | true => 0 | false => 2
theorem chk_num {m : Spn} (h : chkB m = true) : (1 ≤ m.tr ∧ m.tr ≤ 2147483647) ∧ (1 ≤ m.id ∧ m.id ≤ 2147483647) ∧ (0 ≤ m.pa ∧ m.pa ≤ 2147483647) ∧ (0 ≤ m.st ∧ m.st ≤ 1073741824) ∧ (0 ≤ m.du ∧ m.du ≤ 1073741824) := by
 unfold chkB okJ leastJ mostJ numJ at h
 simp at h
 omega
theorem chk_not {m : Spn} {j : Nat} (hj : j < 5) (h : okJ m j = false) : chkB m = false := by
 unfold chkB
 obtain rfl | rfl | rfl | rfl | rfl : j = 0 ∨ j = 1 ∨ j = 2 ∨ j = 3 ∨ j = 4 := by omega
 all_goals simp [h]
theorem ixJ (p j : Nat) (hj : j < 5) (W : World) : (Instr.index 187 (numsV p) (.int .i64 (j : Int))).run Tryz.prog W = .ok (.agg #[.pointer (some ⟨p, offJ j, none⟩), .int .i64 (leastJ j), .int .i64 (mostJ j)]) W := by
 obtain rfl | rfl | rfl | rfl | rfl : j = 0 ∨ j = 1 ∨ j = 2 ∨ j = 3 ∨ j = 4 := by omega
 ·exact ix0 p W
 ·exact ix1 p W
 ·exact ix2 p W
 ·exact ix3 p W
 ·exact ix4 p W
/-- A span lies at a block's beginning. -/
def SpanAt (w : World) (g : Nat) (m : Spn) : Prop := ∀ j u, m.cells[j]? = some u → w.cell? ⟨g, j, none⟩ = some u
theorem SpanAt.kept {S : Nat → Prop} {w w' : World} {g : Nat} {m : Spn} (h : SpanAt w g m) (hK : Kept S w w') (hS : ¬ S g) : SpanAt w' g m := fun j u hj => hK.cell (h j u hj) hS
theorem SpanAt.keptF {w w' : World} {g : Nat} {m : Spn} (h : SpanAt w g m) (hK : Kept (fun _ => False) w w') : SpanAt w' g m := h.kept hK (fun f => f)
theorem SpanAt.new {w : World} {m : Spn} : SpanAt (w.alloc (.cells #[.int .i64 m.tr, .int .i64 m.id, .int .i64 m.pa, .string m.se, .string m.ho, .int .i64 m.st, .int .i64 m.du, .string m.no] 96)) w.heap.size m := by
 intro j u hj
 unfold Spn.cells at hj
 rcases j with _ | _ | _ | _ | _ | _ | _ | _ | j <;> simp at hj <;> subst hj <;> simp
theorem SpanAt.num {w : World} {g : Nat} {m : Spn} (h : SpanAt w g m) (j : Nat) : w.cell? ⟨g, offJ j, none⟩ = some (.int .i64 (numJ m j)) := by
 match j with
 | 0 => exact h 0 _ rfl
 | 1 => exact h 1 _ rfl
 | 2 => exact h 2 _ rfl
 | 3 => exact h 5 _ rfl
 | j + 4 => exact h 6 _ rfl
set_option maxHeartbeats 8000000 in
set_option maxRecDepth 100000 in
theorem check_all (m : Spn) (hs : m.se.size ≤ 9223372036854775807) (hh : m.ho.size ≤ 9223372036854775807) (hn : m.no.size ≤ 9223372036854775807) (w : World) : Calls Tryz.prog 54 #[aggS m] w fun e w' => e = .returned (.int .i64 (errN (chkB m))) ∧ Kept (fun _ => False) w w' := by
 have N0 := Lib.hid (name_all m.se hs)
 have N1 := Lib.hid (name_all m.ho hh)
 unfold aggS
 go_enter Tryz.func54, Tryz.ntmps54
 go_wp2_with fail
 obtain ⟨W, hW⟩ : ∃ W, w.alloc (.cells #[.int .i64 m.tr, .int .i64 m.id, .int .i64 m.pa, .string m.se, .string m.ho, .int .i64 m.st, .int .i64 m.du, .string m.no] 96) = W := ⟨_, rfl⟩
 have K0 : Kept (fun _ => False) w W := by rw [← hW]; exact (Kept.refl _ w).alloc _
 have q0 : SpanAt W w.heap.size m := by rw [← hW]; exact SpanAt.new
 rw [hW]
 clear hW
 refine (numbers_any w.heap.size W).mono ?_
 rintro e w1 ⟨rfl, k1⟩
 have K1 := Lib.hid (K0.trans k1 (fun _ _ f => f) (fun _ _ f => f) : Kept (fun _ => False) w w1)
 have Q1 := Lib.hid (q0.keptF k1)
 clear k1 K0 q0
 obtain ⟨nv, hnv⟩ : ∃ nv, numsV w.heap.size = nv := ⟨_, rfl⟩
 have X := Lib.hid (ixJ w.heap.size)
 rw [hnv] at X ⊢
 clear hnv
 obtain ⟨p, hp⟩ : ∃ p, w.heap.size = p := ⟨_, rfl⟩
 rw [hp] at X Q1 ⊢
 clear hp
 go_wp2
 go_loopg [6] 5 (fun g t wr => ∃ i : Nat, i + g = 5 ∧ t = .int .i64 i ∧ Kept (fun _ => False) w1 wr ∧ ∀ j, j < i → okJ m j = true)
 case atStart => exact ⟨0, by omega, rfl, Kept.refl _ _, fun j hj => absurd hj (Nat.not_lt_zero j)⟩
 case round =>
  obtain ⟨i, hi, rfl, KW, hok⟩ := hrel
  have KF := Lib.hid KW
  have HI := Lib.hid hi
  have OK := Lib.hid hok
  have QW := Lib.hid (Q1.out.keptF KW)
  clear KW hi hok
  by_cases h5 : i < 5
  ·have i1 : (i : Int) < 5 := by omega
   have x0 := X.out i h5
   obtain ⟨l, hl⟩ : ∃ l, leastJ i = l := ⟨_, rfl⟩
   obtain ⟨u, hu⟩ : ∃ u, mostJ i = u := ⟨_, rfl⟩
   obtain ⟨x, hx⟩ : ∃ x, numJ m i = x := ⟨_, rfl⟩
   obtain ⟨o, ho⟩ : ∃ o, offJ i = o := ⟨_, rfl⟩
   have qq := QW.out.num i
   rw [hx, ho] at qq
   rw [hl, hu, ho] at x0
   have HL := Lib.hid hl; have HU := Lib.hid hu; have HX := Lib.hid hx
   clear hl hu hx ho
   go_wp2
   obtain ⟨a0, a1, a2, _, _⟩ := (Kept.refl (fun _ => False) (wr.alloc (.cells #[.pointer (some ⟨p, o, none⟩), .int .i64 l, .int .i64 u] 186))).fresh3 (fun f => f)
   have KA := Lib.hid (KF.out.alloc (.cells #[.pointer (some ⟨p, o, none⟩), .int .i64 l, .int .i64 u] 186))
   have qq2 := ((Kept.refl (fun _ => False) wr).alloc (.cells #[.pointer (some ⟨p, o, none⟩), .int .i64 l, .int .i64 u] 186)).cell qq (fun f => f)
   obtain ⟨W2, hW2⟩ : ∃ W2, wr.alloc (.cells #[.pointer (some ⟨p, o, none⟩), .int .i64 l, .int .i64 u] 186) = W2 := ⟨_, rfl⟩
   rw [hW2] at a0 a1 a2 KA qq2 ⊢
   clear hW2 qq x0
   by_cases c1 : x < l
   ·go_region
    all_goals go_wp2
    all_goals go_ret
    have e : chkB m = false := chk_not h5 (by unfold okJ; rw [HX.out, HL.out]; simp; omega)
    exact ⟨by rw [e]; rfl, K1.out.trans KA.out.drew (fun _ _ f => f) (fun _ _ f => f)⟩
   ·by_cases c2 : u < x
    ·refine wp_region_held_drew (S := (fun w' => w'.cell? ⟨wr.heap.size, 0, none⟩ = some (.pointer (some ⟨p, o, none⟩)) ∧ w'.cell? ⟨wr.heap.size, 1, none⟩ = some (.int .i64 l) ∧ w'.cell? ⟨wr.heap.size, 2, none⟩ = some (.int .i64 u) ∧ w'.cell? ⟨p, o, none⟩ = some (.int .i64 x))) (by kernel_rfl) ?_ (fun hHeld => ?_)
     ·exact ⟨a0, a1, a2, qq2⟩
     refine tW 0 opAt0 hHeld ?_
     (try simp only [Act.put]); try simp only [z2, List.set]
     refine tW 1 opAt1 hHeld ?_
     (try simp only [Act.put]); try simp only [z2, List.set]
     refine tW 2 opAt2 hHeld ?_
     (try simp only [Act.put]); try simp only [z2, List.set]
     refine tW 3 opAt3 hHeld ?_
     (try simp only [Act.put]); try simp only [z2, List.set]
     refine tW 4 opAt4 hHeld ?_
     (try simp only [Act.put]); try simp only [z2, List.set]
     refine tW 5 opAt5 hHeld ?_
     (try simp only [Act.put]); try simp only [z2, List.set]
     refine tW 6 opAt6 hHeld ?_
     (try simp only [Act.put]); try simp only [z2, List.set]
     refine tW 7 opAt7 hHeld ?_
     (try simp only [Act.put]); try simp only [z2, List.set]
     refine tW 8 opAt8 hHeld ?_
     (try simp only [Act.put]); try simp only [z2, List.set]
     refine tW 9 opAt9 hHeld ?_
     (try simp only [Act.put]); try simp only [z2, List.set]
     refine tW 10 opAt10 hHeld ?_
     (try simp only [Act.put]); try simp only [z2, List.set]
     refine tW 11 opAt11 hHeld ?_
     (try simp only [Act.put]); try simp only [z2, List.set]
     refine tW 12 opAt12 hHeld ?_
     (try simp only [Act.put]); try simp only [z2, List.set]
     refine tW 13 opAt13 hHeld ?_
     (try simp only [Act.put]); try simp only [z2, List.set]
     refine tW 14 opAt14 hHeld ?_
     (try simp only [Act.put]); try simp only [z2, List.set]
     refine tW 15 opAt15 hHeld ?_
     (try simp only [Act.put]); try simp only [z2, List.set]
     refine wpAnyH_done (by kernel_rfl) ?_ _
     go_wp2
     go_ret
     have e : chkB m = false := chk_not h5 (by unfold okJ; rw [HX.out, HU.out]; simp; omega)
     exact ⟨by rw [e]; rfl, K1.out.trans KA.out.drew (fun _ _ f => f) (fun _ _ f => f)⟩
    ·refine wp_region_held_drew (S := (fun w' => w'.cell? ⟨wr.heap.size, 0, none⟩ = some (.pointer (some ⟨p, o, none⟩)) ∧ w'.cell? ⟨wr.heap.size, 1, none⟩ = some (.int .i64 l) ∧ w'.cell? ⟨wr.heap.size, 2, none⟩ = some (.int .i64 u) ∧ w'.cell? ⟨p, o, none⟩ = some (.int .i64 x))) (by kernel_rfl) ?_ (fun hHeld => ?_)
     ·exact ⟨a0, a1, a2, qq2⟩
     refine tW 0 opAt0 hHeld ?_
     (try simp only [Act.put]); try simp only [z2, List.set]
     refine tW 1 opAt1 hHeld ?_
     (try simp only [Act.put]); try simp only [z2, List.set]
     refine tW 2 opAt2 hHeld ?_
     (try simp only [Act.put]); try simp only [z2, List.set]
     refine tW 3 opAt3 hHeld ?_
     (try simp only [Act.put]); try simp only [z2, List.set]
     refine tW 4 opAt4 hHeld ?_
     (try simp only [Act.put]); try simp only [z2, List.set]
     refine tW 5 opAt5 hHeld ?_
     (try simp only [Act.put]); try simp only [z2, List.set]
     refine tW 6 opAt6 hHeld ?_
     (try simp only [Act.put]); try simp only [z2, List.set]
     refine tW 7 opAt7 hHeld ?_
     (try simp only [Act.put]); try simp only [z2, List.set]
     refine tW 8 opAt8 hHeld ?_
     (try simp only [Act.put]); try simp only [z2, List.set]
     refine tW 9 opAt9 hHeld ?_
     (try simp only [Act.put]); try simp only [z2, List.set]
     refine tW 10 opAt10 hHeld ?_
     (try simp only [Act.put]); try simp only [z2, List.set]
     refine tW 11 opAt11 hHeld ?_
     (try simp only [Act.put]); try simp only [z2, List.set]
     refine tW 12 opAt12 hHeld ?_
     (try simp only [Act.put]); try simp only [z2, List.set]
     refine tW 13 opAt13 hHeld ?_
     (try simp only [Act.put]); try simp only [z2, List.set]
     refine tW 14 opAt14 hHeld ?_
     (try simp only [Act.put]); try simp only [z2, List.set]
     refine tW 15 opAt15 hHeld ?_
     (try simp only [Act.put]); try simp only [z2, List.set]
     refine wpAnyH_done (by kernel_rfl) ?_ _
     go_wp2
     go_roundg (5 - i - 1)
     case measure => have := HI.out; omega
     case rel =>
      refine ⟨i + 1, by omega, by go_num, KA.out.drew, fun j hj => ?_⟩
      rcases Nat.lt_or_ge j i with h | h
      ·exact OK.out j h
      ·obtain rfl : j = i := by omega
       unfold okJ; rw [HX.out, HL.out, HU.out]; simp; omega
  ·have i1 : ¬ (i : Int) < 5 := by omega
   obtain ⟨b0, hb0⟩ : ∃ b, nameB m.se = b := ⟨_, rfl⟩
   obtain ⟨b1, hb1⟩ : ∃ b, nameB m.ho = b := ⟨_, rfl⟩
   have q3 := QW.out 3 _ rfl
   have q4 := QW.out 4 _ rfl
   have q7 := QW.out 7 _ rfl
   have E : chkB m = (b0 && b1 && decide (m.no.size ≤ 24)) := by
    unfold chkB
    have h := OK.out
    have hi := HI.out
    rw [h 0 (by omega), h 1 (by omega), h 2 (by omega), h 3 (by omega), h 4 (by omega), hb0, hb1]
    rfl
   have EE := Lib.hid E
   clear E
   rw [hb0] at N0
   rw [hb1] at N1
   clear hb0 hb1
   by_cases h24 : (24 : Int) < (m.no.size : Int)
   ·have e24 : decide (m.no.size ≤ 24) = false := by simp; omega
    rw [e24] at EE
    go_wp2_with fail
    refine (N0.out _).mono ?_
    rintro e w2 ⟨rfl, k2⟩
    replace q4 := k2.cell q4 (fun f => f)
    replace q7 := k2.cell q7 (fun f => f)
    have K2 := Lib.hid (KF.out.trans k2 (fun _ _ f => f) (fun _ _ f => f) : Kept (fun _ => False) w1 w2)
    clear k2
    cases b0 with
    | false =>
     go_wp2
     go_ret
     exact ⟨by rw [EE.out]; rfl, K1.out.trans K2.out (fun _ _ f => f) (fun _ _ f => f)⟩
    | true =>
     go_wp2_with fail
     refine (N1.out _).mono ?_
     rintro e w3 ⟨rfl, k3⟩
     replace q7 := k3.cell q7 (fun f => f)
     have K3 := Lib.hid (K2.out.trans k3 (fun _ _ f => f) (fun _ _ f => f) : Kept (fun _ => False) w1 w3)
     clear k3
     cases b1 with
     | false =>
      go_wp2
      go_ret
      exact ⟨by rw [EE.out]; rfl, K1.out.trans K3.out (fun _ _ f => f) (fun _ _ f => f)⟩
     | true =>
      go_wp2
      go_ret
      exact ⟨by rw [EE.out]; rfl, K1.out.trans K3.out (fun _ _ f => f) (fun _ _ f => f)⟩
   ·have e24 : decide (m.no.size ≤ 24) = true := by simp; omega
    rw [e24] at EE
    go_wp2_with fail
    refine (N0.out _).mono ?_
    rintro e w2 ⟨rfl, k2⟩
    replace q4 := k2.cell q4 (fun f => f)
    replace q7 := k2.cell q7 (fun f => f)
    have K2 := Lib.hid (KF.out.trans k2 (fun _ _ f => f) (fun _ _ f => f) : Kept (fun _ => False) w1 w2)
    clear k2
    cases b0 with
    | false =>
     go_wp2
     go_ret
     exact ⟨by rw [EE.out]; rfl, K1.out.trans K2.out (fun _ _ f => f) (fun _ _ f => f)⟩
    | true =>
     go_wp2_with fail
     refine (N1.out _).mono ?_
     rintro e w3 ⟨rfl, k3⟩
     replace q7 := k3.cell q7 (fun f => f)
     have K3 := Lib.hid (K2.out.trans k3 (fun _ _ f => f) (fun _ _ f => f) : Kept (fun _ => False) w1 w3)
     clear k3
     cases b1 with
     | false =>
      go_wp2
      go_ret
      exact ⟨by rw [EE.out]; rfl, K1.out.trans K3.out (fun _ _ f => f) (fun _ _ f => f)⟩
     | true =>
      go_wp2
      go_ret
      exact ⟨by rw [EE.out]; rfl, K1.out.trans K3.out (fun _ _ f => f) (fun _ _ f => f)⟩
end Go.Proofs.YthknocapablpaaaGreatDoor

/-
 DERIVED: THE SHELF's CONTRACTS AT THIS DUMP, IN PLAIN WORDS (tools/lay-plain.mjs out of 'YthknocapablpaaaGreatDoorShB0.lean', which tools/lay-shelf.mjs wrote): THE SAME DECLARATIONS UNDER THE SAME NAMES: 'import', 'namespace', 'open', 'def', 'theorem' AND NOTHING ELSE: no command of the shelf's: FOR A HAND-IN. Each laying: the table of numbers ('.._ren') and one theorem, a field a fact of the dump's own or the kernel's comparison; each contract: ONE APPLICATION.
-/
namespace Go.Proofs
open Go.Shelf
def Tryz.l129_ren : Go.Shelf.Ren := ⟨fun | 129 => 234 | n => n, fun | 53 => 335 | 3 => 3 | 4 => 4 | 46 => 190 | 5 => 5 | 9 => 9 | n => n, fun | n => n⟩
theorem Tryz.l129 : Go.Proofs.Lays.n129 Tryz.prog Tryz.l129_ren := {
 mixed := by kernel_rfl
 f129 := Tryz.func234.trans (congrArg some (by kernel_rfl))
 t3 := Tryz.underlying3
 a3 := Tryz.isAgg3
 z3 := Tryz.sizeOf3
 v3 := Tryz.zeroValue3
 t4 := Tryz.underlying4
 a4 := Tryz.isAgg4
 z4 := Tryz.sizeOf4
 v4 := Tryz.zeroValue4
 t5 := Tryz.underlying5
 a5 := Tryz.isAgg5
 z5 := Tryz.sizeOf5
 v5 := Tryz.zeroValue5
 t9 := Tryz.underlying9
 a9 := Tryz.isAgg9
 z9 := Tryz.sizeOf9
 v9 := Tryz.zeroValue9
 t46 := Tryz.underlying190
 a46 := Tryz.isAgg190
 z46 := Tryz.sizeOf190
 v46 := Tryz.zeroValue190
 t53 := Tryz.underlying335
 a53 := Tryz.isAgg335
 z53 := Tryz.sizeOf335
 v53 := Tryz.zeroValue335 }
end Go.Proofs

/- ints.Put of any number, by its bytes. -/
namespace Go.Proofs.YthknocapablpaaaGreatDoor
set_option maxRecDepth 100000
open Go.RowKit Go.Shelf Go.Lib

/-- A number's digits to the base 128, so many, each but the last one marked. -/
def putL : Nat → Int → List Int
 | 0, _ => []
 | 1, n => [n % 128]
 | m + 2, n => (n / 128 ^ (m + 1) % 128 + 128) :: putL (m + 1) n
def putM (n : Int) : Nat := max 1 ((Lib.bitLen n.toNat + 7 - 1) / 7)
def putF (n : Int) : ByteArray := if n < 0 then .empty else strOfNums (putL (putM n) n)

theorem len64 (x : Int) (w : World) (h0 : 0 ≤ x) (h1 : x ≤ 18446744073709551615) :
  Calls Tryz.prog 234 #[.int .u64 x] w fun e w' => e = .returned (.int .i64 (Lib.bitLen x.toNat)) ∧ w' = w := Any.bits_Len64 Tryz.l129 x w h0 h1

theorem or_fin : ∀ x : Fin 256, bits .or .u8 (x.val : Int) 128 = (x.val : Int) % 128 + 128 := by decide +kernel
theorem an_fin : ∀ x : Fin 128, bits .andNot .u8 ((x.val : Int) + 128) 128 = (x.val : Int) := by decide +kernel
theorem or128 (x : Int) : bits .or .u8 (x % 256) 128 = x % 128 + 128 := by
 have h := or_fin ⟨(x % 256).toNat, by omega⟩
 have e : (((x % 256).toNat : Nat) : Int) = x % 256 := by omega
 simp only [e] at h
 rw [h]; omega
theorem an128 (x : Int) : bits .andNot .u8 (x % 128 + 128) 128 = x % 128 := by
 have h := an_fin ⟨(x % 128).toNat, by omega⟩
 have e : (((x % 128).toNat : Nat) : Int) = x % 128 := by omega
 simp only [e] at h
 exact h
theorem conv_bytes (w : World) (l : List Int) :
  (convert 48 9 (.slice (some ⟨w.heap.size, 0, none⟩) l.length l.length)).run Tryz.prog (w.alloc (.cells (l.map (Value.int .u8)).toArray 5)) = .ok (.string (strOfNums l)) (w.alloc (.cells (l.map (Value.int .u8)).toArray 5)) :=
 run_convert_bytes_arg _ 48 5 Tryz.underlying48 Tryz.underlying5 _ 0 l.length l.length l rfl (fun i hi => by
  rw [Nat.zero_add, World.cell?_alloc_at _ _ _ _ rfl]
  simp [hi]) 9 Tryz.underlying9

set_option maxHeartbeats 1000000 in
set_option maxRecDepth 100000 in
theorem put_1 (n : Int) (w : World) (h0 : 0 ≤ n) (h1 : n ≤ 9223372036854775807) (L : Nat) (hL : Lib.bitLen n.toNat = L) (h63 : (L : Int) ≤ 63) (hm : max 1 (((L : Int) + 7 - 1) / 7) = 1) : Calls Tryz.prog 165 #[.int .i64 n] w fun e w' => e = .returned (.string (strOfNums (putL 1 n))) ∧ Kept (fun _ => False) w w' := by
 have C := Lib.hid (len64 n w h0 (by omega))
 rw [hL] at C
 clear hL
 have e1 : ¬ n < 0 := by omega
 have hp : (0 : Int) ≤ (L : Int) := by omega
 have hmk : ∀ w, (Instr.makeSlice 48 (.int .i64 1) (.int .i64 1)).run Tryz.prog w = .ok (.slice (some ⟨w.heap.size, 0, none⟩) 1 1) (w.alloc (.cells #[.int .u8 0] 5)) := fun _ => by kernel_rfl
 go_enter Tryz.func165, Tryz.ntmps165
 go_wp2_with (go_at_call 234; refine C.out.mono ?_; rintro e w4 ⟨rfl, rfl⟩)
 refine wp_loop_rounds 2 ?_
 rw [rounds_succ]; go_wp2
 rw [rounds_succ]; go_wp2
 simp only [or128, an128]
 have cv := conv_bytes w4 (putL 1 n)
 simp only [putL, List.length, List.map, Nat.zero_add] at cv
 rw [cv]
 go_wp2
 go_ret
 exact ⟨rfl, (Kept.refl _ _).alloc _⟩

set_option maxHeartbeats 1000000 in
set_option maxRecDepth 100000 in
theorem put_2 (n : Int) (w : World) (h0 : 0 ≤ n) (h1 : n ≤ 9223372036854775807) (L : Nat) (hL : Lib.bitLen n.toNat = L) (h63 : (L : Int) ≤ 63) (hm : max 1 (((L : Int) + 7 - 1) / 7) = 2) : Calls Tryz.prog 165 #[.int .i64 n] w fun e w' => e = .returned (.string (strOfNums (putL 2 n))) ∧ Kept (fun _ => False) w w' := by
 have C := Lib.hid (len64 n w h0 (by omega))
 rw [hL] at C
 clear hL
 have e1 : ¬ n < 0 := by omega
 have hp : (0 : Int) ≤ (L : Int) := by omega
 have hmk : ∀ w, (Instr.makeSlice 48 (.int .i64 2) (.int .i64 2)).run Tryz.prog w = .ok (.slice (some ⟨w.heap.size, 0, none⟩) 2 2) (w.alloc (.cells #[.int .u8 0, .int .u8 0] 5)) := fun _ => by kernel_rfl
 go_enter Tryz.func165, Tryz.ntmps165
 go_wp2_with (go_at_call 234; refine C.out.mono ?_; rintro e w4 ⟨rfl, rfl⟩)
 refine wp_loop_rounds 3 ?_
 rw [rounds_succ]; go_wp2
 rw [rounds_succ]; go_wp2
 rw [rounds_succ]; go_wp2
 simp only [or128, an128]
 have cv := conv_bytes w4 (putL 2 n)
 simp only [putL, List.length, List.map, Nat.zero_add, Nat.reduceAdd, Int.reducePow] at cv
 rw [cv]
 go_wp2
 go_ret
 exact ⟨rfl, (Kept.refl _ _).alloc _⟩

set_option maxHeartbeats 1000000 in
set_option maxRecDepth 100000 in
theorem put_3 (n : Int) (w : World) (h0 : 0 ≤ n) (h1 : n ≤ 9223372036854775807) (L : Nat) (hL : Lib.bitLen n.toNat = L) (h63 : (L : Int) ≤ 63) (hm : max 1 (((L : Int) + 7 - 1) / 7) = 3) : Calls Tryz.prog 165 #[.int .i64 n] w fun e w' => e = .returned (.string (strOfNums (putL 3 n))) ∧ Kept (fun _ => False) w w' := by
 have C := Lib.hid (len64 n w h0 (by omega))
 rw [hL] at C
 clear hL
 have e1 : ¬ n < 0 := by omega
 have hp : (0 : Int) ≤ (L : Int) := by omega
 have hmk : ∀ w, (Instr.makeSlice 48 (.int .i64 3) (.int .i64 3)).run Tryz.prog w = .ok (.slice (some ⟨w.heap.size, 0, none⟩) 3 3) (w.alloc (.cells #[.int .u8 0, .int .u8 0, .int .u8 0] 5)) := fun _ => by kernel_rfl
 go_enter Tryz.func165, Tryz.ntmps165
 go_wp2_with (go_at_call 234; refine C.out.mono ?_; rintro e w4 ⟨rfl, rfl⟩)
 refine wp_loop_rounds 4 ?_
 rw [rounds_succ]; go_wp2
 rw [rounds_succ]; go_wp2
 rw [rounds_succ]; go_wp2
 rw [rounds_succ]; go_wp2
 simp only [or128, an128]
 have cv := conv_bytes w4 (putL 3 n)
 simp only [putL, List.length, List.map, Nat.zero_add, Nat.reduceAdd, Int.reducePow] at cv
 rw [cv]
 go_wp2
 go_ret
 exact ⟨rfl, (Kept.refl _ _).alloc _⟩

set_option maxHeartbeats 1000000 in
set_option maxRecDepth 100000 in
theorem put_4 (n : Int) (w : World) (h0 : 0 ≤ n) (h1 : n ≤ 9223372036854775807) (L : Nat) (hL : Lib.bitLen n.toNat = L) (h63 : (L : Int) ≤ 63) (hm : max 1 (((L : Int) + 7 - 1) / 7) = 4) : Calls Tryz.prog 165 #[.int .i64 n] w fun e w' => e = .returned (.string (strOfNums (putL 4 n))) ∧ Kept (fun _ => False) w w' := by
 have C := Lib.hid (len64 n w h0 (by omega))
 rw [hL] at C
 clear hL
 have e1 : ¬ n < 0 := by omega
 have hp : (0 : Int) ≤ (L : Int) := by omega
 have hmk : ∀ w, (Instr.makeSlice 48 (.int .i64 4) (.int .i64 4)).run Tryz.prog w = .ok (.slice (some ⟨w.heap.size, 0, none⟩) 4 4) (w.alloc (.cells #[.int .u8 0, .int .u8 0, .int .u8 0, .int .u8 0] 5)) := fun _ => by kernel_rfl
 go_enter Tryz.func165, Tryz.ntmps165
 go_wp2_with (go_at_call 234; refine C.out.mono ?_; rintro e w4 ⟨rfl, rfl⟩)
 refine wp_loop_rounds 5 ?_
 rw [rounds_succ]; go_wp2
 rw [rounds_succ]; go_wp2
 rw [rounds_succ]; go_wp2
 rw [rounds_succ]; go_wp2
 rw [rounds_succ]; go_wp2
 simp only [or128, an128]
 have cv := conv_bytes w4 (putL 4 n)
 simp only [putL, List.length, List.map, Nat.zero_add, Nat.reduceAdd, Int.reducePow] at cv
 rw [cv]
 go_wp2
 go_ret
 exact ⟨rfl, (Kept.refl _ _).alloc _⟩

set_option maxHeartbeats 1000000 in
set_option maxRecDepth 100000 in
theorem put_5 (n : Int) (w : World) (h0 : 0 ≤ n) (h1 : n ≤ 9223372036854775807) (L : Nat) (hL : Lib.bitLen n.toNat = L) (h63 : (L : Int) ≤ 63) (hm : max 1 (((L : Int) + 7 - 1) / 7) = 5) : Calls Tryz.prog 165 #[.int .i64 n] w fun e w' => e = .returned (.string (strOfNums (putL 5 n))) ∧ Kept (fun _ => False) w w' := by
 have C := Lib.hid (len64 n w h0 (by omega))
 rw [hL] at C
 clear hL
 have e1 : ¬ n < 0 := by omega
 have hp : (0 : Int) ≤ (L : Int) := by omega
 have hmk : ∀ w, (Instr.makeSlice 48 (.int .i64 5) (.int .i64 5)).run Tryz.prog w = .ok (.slice (some ⟨w.heap.size, 0, none⟩) 5 5) (w.alloc (.cells #[.int .u8 0, .int .u8 0, .int .u8 0, .int .u8 0, .int .u8 0] 5)) := fun _ => by kernel_rfl
 go_enter Tryz.func165, Tryz.ntmps165
 go_wp2_with (go_at_call 234; refine C.out.mono ?_; rintro e w4 ⟨rfl, rfl⟩)
 refine wp_loop_rounds 6 ?_
 rw [rounds_succ]; go_wp2
 rw [rounds_succ]; go_wp2
 rw [rounds_succ]; go_wp2
 rw [rounds_succ]; go_wp2
 rw [rounds_succ]; go_wp2
 rw [rounds_succ]; go_wp2
 simp only [or128, an128]
 have cv := conv_bytes w4 (putL 5 n)
 simp only [putL, List.length, List.map, Nat.zero_add, Nat.reduceAdd, Int.reducePow] at cv
 rw [cv]
 go_wp2
 go_ret
 exact ⟨rfl, (Kept.refl _ _).alloc _⟩

set_option maxHeartbeats 1000000 in
set_option maxRecDepth 100000 in
theorem put_6 (n : Int) (w : World) (h0 : 0 ≤ n) (h1 : n ≤ 9223372036854775807) (L : Nat) (hL : Lib.bitLen n.toNat = L) (h63 : (L : Int) ≤ 63) (hm : max 1 (((L : Int) + 7 - 1) / 7) = 6) : Calls Tryz.prog 165 #[.int .i64 n] w fun e w' => e = .returned (.string (strOfNums (putL 6 n))) ∧ Kept (fun _ => False) w w' := by
 have C := Lib.hid (len64 n w h0 (by omega))
 rw [hL] at C
 clear hL
 have e1 : ¬ n < 0 := by omega
 have hp : (0 : Int) ≤ (L : Int) := by omega
 have hmk : ∀ w, (Instr.makeSlice 48 (.int .i64 6) (.int .i64 6)).run Tryz.prog w = .ok (.slice (some ⟨w.heap.size, 0, none⟩) 6 6) (w.alloc (.cells #[.int .u8 0, .int .u8 0, .int .u8 0, .int .u8 0, .int .u8 0, .int .u8 0] 5)) := fun _ => by kernel_rfl
 go_enter Tryz.func165, Tryz.ntmps165
 go_wp2_with (go_at_call 234; refine C.out.mono ?_; rintro e w4 ⟨rfl, rfl⟩)
 refine wp_loop_rounds 7 ?_
 rw [rounds_succ]; go_wp2
 rw [rounds_succ]; go_wp2
 rw [rounds_succ]; go_wp2
 rw [rounds_succ]; go_wp2
 rw [rounds_succ]; go_wp2
 rw [rounds_succ]; go_wp2
 rw [rounds_succ]; go_wp2
 simp only [or128, an128]
 have cv := conv_bytes w4 (putL 6 n)
 simp only [putL, List.length, List.map, Nat.zero_add, Nat.reduceAdd, Int.reducePow] at cv
 rw [cv]
 go_wp2
 go_ret
 exact ⟨rfl, (Kept.refl _ _).alloc _⟩

set_option maxHeartbeats 1000000 in
set_option maxRecDepth 100000 in
theorem put_7 (n : Int) (w : World) (h0 : 0 ≤ n) (h1 : n ≤ 9223372036854775807) (L : Nat) (hL : Lib.bitLen n.toNat = L) (h63 : (L : Int) ≤ 63) (hm : max 1 (((L : Int) + 7 - 1) / 7) = 7) : Calls Tryz.prog 165 #[.int .i64 n] w fun e w' => e = .returned (.string (strOfNums (putL 7 n))) ∧ Kept (fun _ => False) w w' := by
 have C := Lib.hid (len64 n w h0 (by omega))
 rw [hL] at C
 clear hL
 have e1 : ¬ n < 0 := by omega
 have hp : (0 : Int) ≤ (L : Int) := by omega
 have hmk : ∀ w, (Instr.makeSlice 48 (.int .i64 7) (.int .i64 7)).run Tryz.prog w = .ok (.slice (some ⟨w.heap.size, 0, none⟩) 7 7) (w.alloc (.cells #[.int .u8 0, .int .u8 0, .int .u8 0, .int .u8 0, .int .u8 0, .int .u8 0, .int .u8 0] 5)) := fun _ => by kernel_rfl
 go_enter Tryz.func165, Tryz.ntmps165
 go_wp2_with (go_at_call 234; refine C.out.mono ?_; rintro e w4 ⟨rfl, rfl⟩)
 refine wp_loop_rounds 8 ?_
 rw [rounds_succ]; go_wp2
 rw [rounds_succ]; go_wp2
 rw [rounds_succ]; go_wp2
 rw [rounds_succ]; go_wp2
 rw [rounds_succ]; go_wp2
 rw [rounds_succ]; go_wp2
 rw [rounds_succ]; go_wp2
 rw [rounds_succ]; go_wp2
 simp only [or128, an128]
 have cv := conv_bytes w4 (putL 7 n)
 simp only [putL, List.length, List.map, Nat.zero_add, Nat.reduceAdd, Int.reducePow] at cv
 rw [cv]
 go_wp2
 go_ret
 exact ⟨rfl, (Kept.refl _ _).alloc _⟩

set_option maxHeartbeats 1000000 in
set_option maxRecDepth 100000 in
theorem put_8 (n : Int) (w : World) (h0 : 0 ≤ n) (h1 : n ≤ 9223372036854775807) (L : Nat) (hL : Lib.bitLen n.toNat = L) (h63 : (L : Int) ≤ 63) (hm : max 1 (((L : Int) + 7 - 1) / 7) = 8) : Calls Tryz.prog 165 #[.int .i64 n] w fun e w' => e = .returned (.string (strOfNums (putL 8 n))) ∧ Kept (fun _ => False) w w' := by
 have C := Lib.hid (len64 n w h0 (by omega))
 rw [hL] at C
 clear hL
 have e1 : ¬ n < 0 := by omega
 have hp : (0 : Int) ≤ (L : Int) := by omega
 have hmk : ∀ w, (Instr.makeSlice 48 (.int .i64 8) (.int .i64 8)).run Tryz.prog w = .ok (.slice (some ⟨w.heap.size, 0, none⟩) 8 8) (w.alloc (.cells #[.int .u8 0, .int .u8 0, .int .u8 0, .int .u8 0, .int .u8 0, .int .u8 0, .int .u8 0, .int .u8 0] 5)) := fun _ => by kernel_rfl
 go_enter Tryz.func165, Tryz.ntmps165
 go_wp2_with (go_at_call 234; refine C.out.mono ?_; rintro e w4 ⟨rfl, rfl⟩)
 refine wp_loop_rounds 9 ?_
 rw [rounds_succ]; go_wp2
 rw [rounds_succ]; go_wp2
 rw [rounds_succ]; go_wp2
 rw [rounds_succ]; go_wp2
 rw [rounds_succ]; go_wp2
 rw [rounds_succ]; go_wp2
 rw [rounds_succ]; go_wp2
 rw [rounds_succ]; go_wp2
 rw [rounds_succ]; go_wp2
 simp only [or128, an128]
 have cv := conv_bytes w4 (putL 8 n)
 simp only [putL, List.length, List.map, Nat.zero_add, Nat.reduceAdd, Int.reducePow] at cv
 rw [cv]
 go_wp2
 go_ret
 exact ⟨rfl, (Kept.refl _ _).alloc _⟩

set_option maxHeartbeats 1000000 in
set_option maxRecDepth 100000 in
theorem put_9 (n : Int) (w : World) (h0 : 0 ≤ n) (h1 : n ≤ 9223372036854775807) (L : Nat) (hL : Lib.bitLen n.toNat = L) (h63 : (L : Int) ≤ 63) (hm : max 1 (((L : Int) + 7 - 1) / 7) = 9) : Calls Tryz.prog 165 #[.int .i64 n] w fun e w' => e = .returned (.string (strOfNums (putL 9 n))) ∧ Kept (fun _ => False) w w' := by
 have C := Lib.hid (len64 n w h0 (by omega))
 rw [hL] at C
 clear hL
 have e1 : ¬ n < 0 := by omega
 have hp : (0 : Int) ≤ (L : Int) := by omega
 have hmk : ∀ w, (Instr.makeSlice 48 (.int .i64 9) (.int .i64 9)).run Tryz.prog w = .ok (.slice (some ⟨w.heap.size, 0, none⟩) 9 9) (w.alloc (.cells #[.int .u8 0, .int .u8 0, .int .u8 0, .int .u8 0, .int .u8 0, .int .u8 0, .int .u8 0, .int .u8 0, .int .u8 0] 5)) := fun _ => by kernel_rfl
 go_enter Tryz.func165, Tryz.ntmps165
 go_wp2_with (go_at_call 234; refine C.out.mono ?_; rintro e w4 ⟨rfl, rfl⟩)
 refine wp_loop_rounds 10 ?_
 rw [rounds_succ]; go_wp2
 rw [rounds_succ]; go_wp2
 rw [rounds_succ]; go_wp2
 rw [rounds_succ]; go_wp2
 rw [rounds_succ]; go_wp2
 rw [rounds_succ]; go_wp2
 rw [rounds_succ]; go_wp2
 rw [rounds_succ]; go_wp2
 rw [rounds_succ]; go_wp2
 rw [rounds_succ]; go_wp2
 have e9 : bits .or .u8 (n / 72057594037927936) 128 = n / 72057594037927936 % 128 + 128 := by
  have := or128 (n / 72057594037927936)
  rwa [show n / 72057594037927936 % 256 = n / 72057594037927936 by omega] at this
 simp only [or128, an128, e9]
 have cv := conv_bytes w4 (putL 9 n)
 simp only [putL, List.length, List.map, Nat.zero_add, Nat.reduceAdd, Int.reducePow] at cv
 rw [cv]
 go_wp2
 go_ret
 exact ⟨rfl, (Kept.refl _ _).alloc _⟩

theorem put_all (n : Int) (w : World) (h1 : n ≤ 9223372036854775807) : Calls Tryz.prog 165 #[.int .i64 n] w fun e w' => e = .returned (.string (putF n)) ∧ Kept (fun _ => False) w w' := by
 unfold putF
 by_cases h : n < 0
 ·rw [if_pos h]
  go_enter Tryz.func165, Tryz.ntmps165
  go_wp2
  go_ret
  exact ⟨rfl, Kept.refl _ _⟩
 rw [if_neg h]
 have h0 : 0 ≤ n := by omega
 have hb : Lib.bitLen n.toNat ≤ 63 := Lib.bitLen_le _ 63 (by omega) (by omega)
 by_cases g1 : max 1 ((((Lib.bitLen n.toNat : Nat) : Int) + 7 - 1) / 7) = 1
 ·have e : putM n = 1 := by unfold putM; omega
  rw [e]
  exact put_1 n w h0 h1 _ rfl (by omega) g1
 by_cases g2 : max 1 ((((Lib.bitLen n.toNat : Nat) : Int) + 7 - 1) / 7) = 2
 ·have e : putM n = 2 := by unfold putM; omega
  rw [e]
  exact put_2 n w h0 h1 _ rfl (by omega) g2
 by_cases g3 : max 1 ((((Lib.bitLen n.toNat : Nat) : Int) + 7 - 1) / 7) = 3
 ·have e : putM n = 3 := by unfold putM; omega
  rw [e]
  exact put_3 n w h0 h1 _ rfl (by omega) g3
 by_cases g4 : max 1 ((((Lib.bitLen n.toNat : Nat) : Int) + 7 - 1) / 7) = 4
 ·have e : putM n = 4 := by unfold putM; omega
  rw [e]
  exact put_4 n w h0 h1 _ rfl (by omega) g4
 by_cases g5 : max 1 ((((Lib.bitLen n.toNat : Nat) : Int) + 7 - 1) / 7) = 5
 ·have e : putM n = 5 := by unfold putM; omega
  rw [e]
  exact put_5 n w h0 h1 _ rfl (by omega) g5
 by_cases g6 : max 1 ((((Lib.bitLen n.toNat : Nat) : Int) + 7 - 1) / 7) = 6
 ·have e : putM n = 6 := by unfold putM; omega
  rw [e]
  exact put_6 n w h0 h1 _ rfl (by omega) g6
 by_cases g7 : max 1 ((((Lib.bitLen n.toNat : Nat) : Int) + 7 - 1) / 7) = 7
 ·have e : putM n = 7 := by unfold putM; omega
  rw [e]
  exact put_7 n w h0 h1 _ rfl (by omega) g7
 by_cases g8 : max 1 ((((Lib.bitLen n.toNat : Nat) : Int) + 7 - 1) / 7) = 8
 ·have e : putM n = 8 := by unfold putM; omega
  rw [e]
  exact put_8 n w h0 h1 _ rfl (by omega) g8
 by_cases g9 : max 1 ((((Lib.bitLen n.toNat : Nat) : Int) + 7 - 1) / 7) = 9
 ·have e : putM n = 9 := by unfold putM; omega
  rw [e]
  exact put_9 n w h0 h1 _ rfl (by omega) g9
 omega
end Go.Proofs.YthknocapablpaaaGreatDoor

/- (*strings.Builder).copyCheck, as a summary. -/
namespace Go.Proofs.YthknocapablpaaaGreatDoor
open Go.RowKit Go.Lib Go.Eng

set_option maxHeartbeats 1000000 in
set_option maxRecDepth 100000 in
theorem copy_used (b o : Nat) (w : World) (h0 : w.cell? ⟨b, o, none⟩ = some (.pointer (some ⟨b, o, none⟩))) :
  Calls Tryz.prog 250 #[.pointer (some ⟨b, o, none⟩)] w fun e w' => e = .returned (.tuple #[]) ∧ w' = w := by
 obtain ⟨j, hj, hjs⟩ : ∃ j, Tryz.prog.info? 263 = some j ∧ j.size = 2 := ⟨_, rfl, rfl⟩
 go_enter Tryz.func250, Tryz.ntmps250
 go_wp2
 rw [Lib.run_neq_ptr_same w _ Tryz.underlying261 hj]
 go_wp2
 go_end0
 exact ⟨rfl, rfl⟩

set_option maxHeartbeats 1000000 in
set_option maxRecDepth 100000 in
theorem copy_fresh (b o k : Nat) (w : World) (h0 : w.cell? ⟨b, o, none⟩ = some (.pointer none)) (hsh : w.shape? b = some (263, k)) (ho : o < k) (hl : liesAt Tryz.prog Tryz.prog.depth 263 (k / Tryz.prog.cellsOf 263) o 263 1 = true) (hfz : w.frozen? ⟨b, o, none⟩ = false) :
  Calls Tryz.prog 250 #[.pointer (some ⟨b, o, none⟩)] w fun e w' => e = .returned (.tuple #[]) ∧ w' = w.setCell ⟨b, o, none⟩ (.pointer (some ⟨b, o, none⟩)) := by
 obtain ⟨j, hj, hjs⟩ : ∃ j, Tryz.prog.info? 263 = some j ∧ j.size = 2 := ⟨_, rfl, rfl⟩
 go_enter Tryz.func250, Tryz.ntmps250
 go_wp2
 rw [Lib.run_to_unsafe w ⟨b, o, none⟩ Tryz.underlying261 Tryz.underlying413 hj (by rw [hjs]; decide) hsh ho]
 simp only [Result.andThen]
 rw [Oper.upon_value]
 go_wp2
 rw [run_callFunc_extern Tryz.func322 (by kernel_rfl) (by kernel_rfl) (by kernel_rfl) (e := Extern.AbiNoEscape.same) (by kernel_rfl)]
 rw [Lib.run_noEscape]
 simp only [Result.andThen]
 rw [Oper.upon_value]
 go_wp2
 rw [Lib.run_from_unsafe w ⟨b, o, none⟩ Tryz.underlying413 Tryz.underlying261 hj hsh hl]
 simp only [Result.andThen]
 rw [Oper.upon_value]
 go_wp2
 go_end0
 exact ⟨rfl, rfl⟩

theorem builder_lies (k o : Nat) (hk : o + 2 ≤ k) (ho : o % 2 = 0) : liesAt Tryz.prog Tryz.prog.depth 263 (k / Tryz.prog.cellsOf 263) o 263 1 = true := by
 have hc : Tryz.prog.cellsOf 263 = 2 := by kernel_rfl
 obtain ⟨d, hd⟩ : ∃ d, Tryz.prog.depth = d + 1 := ⟨_, rfl⟩
 have hs : sameLayout Tryz.prog Tryz.prog.depth 263 263 = true := by rw [hd]; simp [sameLayout]
 rw [hc]
 unfold liesAt
 rw [hd]
 simp only
 rw [← hd]
 have : rowAt Tryz.prog (fun x => sameLayout Tryz.prog Tryz.prog.depth x 263) Tryz.prog.depth 263 (k / 2) o 1 = true := by
  rw [hd]
  unfold rowAt
  simp only [hc]
  rw [← hd, hs, ho]
  have : o / 2 + 1 ≤ k / 2 := by omega
  simp [this]
 rw [this]
 rfl

noncomputable section
/-- The builder's first cell is its own address. -/
def copyS (args : List AV) (h : Heap) (c : Nat) : Option CRes := match args with
 | [.ptr n 0] => match h.get n with
  | some (.cells t [p, v]) => bif Nat.beq t 263 then
    match p with
    | .nilp => match putObj h n (some (.cells t [.ptr n 0, v])) fun h => some (.val uv h c) with
     | some (.val u h c) => some (.mk u h c)
     | _ => none
    | .ptr m 0 => bif Nat.beq n m then some (.mk uv h c) else none
    | _ => none
   else none
  | _ => none
 | _ => none
end

theorem copy_ok {η : Env} {args : List AV} {h : Heap} {c : Nat} {v : AV} {h' : Heap} {c' : Nat} (he : copyS args h c = some (.mk v h' c')) {σ : Sig} {w : World} {avs : List Value} (H : HR Tryz.prog σ η h c w) (ha : concs σ η args = some avs) : Calls Tryz.prog 250 avs.toArray w (Done Tryz.prog η σ h c w v h' c') := by
 unfold copyS at he
 split at he
 rotate_left
 ·cases he
 rename_i n
 obtain ⟨pv, rs, hp, hr, rfl⟩ := concs_cons.1 ha
 simp only [concs, Option.some.injEq] at hr
 subst hr
 obtain ⟨l, hl, rfl⟩ := conc_ptr.1 hp
 split at he
 rotate_left
 ·cases he
 rename_i t p v0 hg
 cases ht : Nat.beq t 263 with
 | false => simp [ht] at he
 | true =>
 simp only [ht, cond_true] at he
 have ht := Nat.eq_of_beq_eq_true ht
 subst ht
 obtain ⟨l', hl', ob⟩ := H.obj n _ hg
 rw [hl] at hl'
 cases hl'
 obtain ⟨C, fr, vs, k1, k2, k3, k4, k5, k6, k7⟩ := ob
 obtain ⟨u, us, q1, q2, rfl⟩ := concs_cons.1 k3
 obtain ⟨u2, us2, q3, q4, rfl⟩ := concs_cons.1 q2
 simp only [concs, Option.some.injEq] at q4
 subst q4
 have hcell : w.cell? ⟨l.blk, l.off, none⟩ = some u := by
  simp only [World.cell?, k1]
  simpa using k5 0 u rfl
 have hc2 : Tryz.prog.cellsOf 263 = 2 := by kernel_rfl
 rw [hc2] at k7
 simp only [List.length_cons, List.length_nil] at k6
 split at he
 ·simp only [conc, Option.some.injEq] at q1
  subst q1
  unfold putObj at he
  cases hb : Nat.ble n bigN with
  | false => simp [hb] at he
  | true =>
  simp only [hb, cond_true, setK_eq, Option.some.injEq, CRes.mk.injEq] at he
  obtain ⟨rfl, rfl, rfl⟩ := he
  have hf : w.frozen? ⟨l.blk, l.off, none⟩ = false := by
   simp only [World.frozen?, k1]
   simpa using k2 l.off (Nat.lt_of_lt_of_le (by omega) lim_le)
  refine Calls.mono (copy_fresh l.blk l.off C.size w hcell (by simp only [World.shape?, k1]) (by omega) (builder_lies _ _ (by omega) k7) hf) ?_
  rintro e w' ⟨rfl, rfl⟩
  refine ⟨_, σ, rfl, rfl, ?_⟩
  have hlay : lay? [.nilp, v0] 0 [.ptr n 0] = some [.ptr n 0, v0] := rfl
  obtain ⟨w1, r1, wt⟩ := lay_ok H (cells?_iff.2 hg) (Nat.le_of_ble_eq_true hb) hl hlay (concs_cons.2 ⟨_, [], hp, rfl, rfl⟩) rfl
  simp only [storeCells, Sem.run_bind, Addr.add_zero', Nat.add_zero] at r1
  rw [run_store _ _ _ _ _ rfl] at r1
  simp only [hcell, hf, Bool.false_eq_true, if_false, Result.andThen_ok, Sem.run_pure, Result.ok.injEq, true_and] at r1
  rw [← r1] at wt
  exact wt
 ·rename_i m
  cases hb : Nat.beq n m with
  | false => simp [hb] at he
  | true =>
  simp only [hb, cond_true, Option.some.injEq, CRes.mk.injEq] at he
  have := Nat.eq_of_beq_eq_true hb
  subst this
  obtain ⟨rfl, rfl, rfl⟩ := he
  obtain ⟨l2, hl2, rfl⟩ := conc_ptr.1 q1
  rw [hl] at hl2
  cases hl2
  refine Calls.mono (copy_used l.blk l.off w hcell) ?_
  rintro e w' ⟨rfl, rfl⟩
  exact ⟨_, σ, rfl, rfl, Went.refl H⟩
 ·cases he

end Go.Proofs.YthknocapablpaaaGreatDoor

/-
 DERIVED: THE SHELF's CONTRACTS AT THIS DUMP, IN PLAIN WORDS (tools/lay-plain.mjs out of 'YthknocapablpaaaGreatDoorShW0.lean', which tools/lay-shelf.mjs wrote): THE SAME DECLARATIONS UNDER THE SAME NAMES: 'import', 'namespace', 'open', 'def', 'theorem' AND NOTHING ELSE: no command of the shelf's: FOR A HAND-IN. Each laying: the table of numbers ('.._ren') and one theorem, a field a fact of the dump's own or the kernel's comparison; each contract: ONE APPLICATION.
-/
namespace Go.Proofs
open Go.Shelf
def Tryz.l169_ren : Go.Shelf.Ren := ⟨fun | 169 => 166 | n => n, fun | 70 => 261 | 9 => 9 | 0 => 0 | 72 => 263 | 37 => 48 | 127 => 349 | 3 => 3 | 5 => 5 | n => n, fun | n => n⟩
theorem Tryz.l169 : Go.Proofs.Lays.n169 Tryz.prog Tryz.l169_ren := {
 mixed := by kernel_rfl
 f169 := Tryz.func166.trans (congrArg some (by kernel_rfl))
 t0 := Tryz.underlying0
 a0 := Tryz.isAgg0
 z0 := Tryz.sizeOf0
 v0 := Tryz.zeroValue0
 t3 := Tryz.underlying3
 a3 := Tryz.isAgg3
 z3 := Tryz.sizeOf3
 v3 := Tryz.zeroValue3
 t9 := Tryz.underlying9
 a9 := Tryz.isAgg9
 z9 := Tryz.sizeOf9
 v9 := Tryz.zeroValue9
 t37 := Tryz.underlying48
 a37 := Tryz.isAgg48
 z37 := Tryz.sizeOf48
 v37 := Tryz.zeroValue48
 t70 := Tryz.underlying261
 a70 := Tryz.isAgg261
 z70 := Tryz.sizeOf261
 v70 := Tryz.zeroValue261
 t72 := Tryz.underlying263
 a72 := Tryz.isAgg263
 z72 := Tryz.sizeOf263
 v72 := Tryz.zeroValue263
 t127 := Tryz.underlying349
 a127 := Tryz.isAgg349
 z127 := Tryz.sizeOf349
 v127 := Tryz.zeroValue349 }
end Go.Proofs

/- strings.Builder: copyCheck, WriteString, String. -/
namespace Go.Proofs.YthknocapablpaaaGreatDoor
set_option maxRecDepth 100000
open Go.RowKit Go.Lib

theorem bExtra : Builder.Extra Tryz.prog Tryz.l169_ren := {
 sizeBuilder := by kernel_rfl
 liesBuilder := by kernel_rfl
 t5 := Tryz.underlying5
 a5 := Tryz.isAgg5
 z5 := Tryz.sizeOf5
 v5 := Tryz.zeroValue5
 infoByte := by kernel_rfl
 cellsByte := by kernel_rfl
 sizeByte := by kernel_rfl
 neB5 := by decide }

theorem copy_all (B b : Nat) (bs : List Value) (w : World) (h : Lib.IsBuilder 263 5 B b bs w) :
  Calls Tryz.prog 250 #[.pointer (some ⟨b, 0, none⟩)] w fun e w' => e = .returned (.tuple #[]) ∧ Lib.BuilderAt 263 5 B b (.pointer (some ⟨b, 0, none⟩)) bs w' ∧ Below B w w' := by
 rcases h with h | h
 ·refine (copy_fresh b 0 2 w h.cell0 h.shape (by decide) (by kernel_rfl) h.frozen0).mono ?_
  rintro e w' ⟨rfl, rfl⟩
  exact ⟨rfl, h.used _, (Below.refl B w).setCell (p := ⟨b, 0, none⟩) h.1 _⟩
 ·refine (copy_used b 0 w h.cell0).mono ?_
  rintro e w' ⟨rfl, rfl⟩
  exact ⟨rfl, h, Below.refl B _⟩

set_option maxHeartbeats 2000000 in
set_option maxRecDepth 100000 in
theorem wri_all (B b : Nat) (bs : List Value) (s : ByteArray) (w : World) (h : Lib.IsBuilder 263 5 B b bs w) (hlen : bs.length + s.size ≤ 140737488355328) (hBw : B ≤ w.heap.size) :
  Calls Tryz.prog 163 #[.pointer (some ⟨b, 0, none⟩), .string s] w fun e w' => e = .returned (.tuple #[.int .i64 s.size, .nilIface]) ∧ (Lib.BuilderAt 263 5 B b (.pointer (some ⟨b, 0, none⟩)) (bs ++ Lib.strCells s) w' ∧ Below B w w') := by
 obtain ⟨i0, hi, hz0, hz1, hz2⟩ := info_parts bExtra.infoByte
 go_enter Tryz.func163, Tryz.ntmps163
 go_wp2_with (go_at_call 250; refine (copy_all B b bs _ h).mono ?_)
 rintro e w1 ⟨rfl, h1, hb1⟩
 obtain ⟨hB, v, hbk, hown, hne⟩ := h1
 have c0 : w1.cell? ⟨b, 0, none⟩ = some (.pointer (some ⟨b, 0, none⟩)) := by rw [Lib.cell_of_heap hbk]; rfl
 have c1 : w1.cell? ⟨b, 1, none⟩ = some v := by rw [Lib.cell_of_heap hbk]; rfl
 go_wp2_with (at_builtin; refine Lib.wpList_append_own_string _ rfl _ _ 48 9 rfl B 5 i0 Tryz.underlying48 Tryz.underlying9 hi hz0 hz1 hz2 _ _ _ rfl hown s rfl ?c3 ?c4 ?c5 ?_)
 case c3 => unfold maxLen; omega
 case c4 => omega
 case c5 => have := hb1.size; omega
 intro v' w2 hown' hgrow _
 have hlt : b < w1.heap.size := by
  rcases Nat.lt_or_ge b w1.heap.size with h' | h'
  ·exact h'
  ·simp [Array.getElem?_eq_none h'] at hbk
 have hb2 : w2.heap[b]? = some (.cells #[.pointer (some ⟨b, 0, none⟩), v] 263 (0, 0)) := by
  rw [hgrow.block b hlt (fun e => hne e.symm)]
  exact hbk
 have d0 : w2.cell? ⟨b, 0, none⟩ = some (.pointer (some ⟨b, 0, none⟩)) := by rw [Lib.cell_of_heap hb2]; rfl
 have d1 : w2.cell? ⟨b, 1, none⟩ = some v := by rw [Lib.cell_of_heap hb2]; rfl
 have f1 : w2.frozen? ⟨b, 1, none⟩ = false := Lib.frozen_of_heap hb2 1
 obtain ⟨ao, n', cap, rfl⟩ : ∃ ao n' cap, v' = .slice ao n' cap := by
  rcases hown'.2 with ⟨hv, _⟩ | ⟨g, cap, cur, hv, _⟩
  ·exact ⟨_, _, _, hv⟩
  ·exact ⟨_, _, _, hv⟩
 go_wp2
 go_ret2
 refine ⟨rfl, ?_, ?_⟩
 ·exact Lib.BuilderAt.put (T := 263) (e := 5) hB hb2 (bs' := bs ++ Lib.strCells s) (by simpa [Lib.strCells_length] using hown') bExtra.neB5
 ·exact (hb1.grown hgrow (by have := hb1.size; omega) (fun k hk => (hown.lt k hk).1)).setCell (p := ⟨b, 1, none⟩) hB _

theorem str_all (B b : Nat) (l : List UInt8) (w : World) (h : Lib.IsBuilder 263 5 B b (Lib.byteCells l) w) (hBw : B ≤ w.heap.size) :
  Calls Tryz.prog 166 #[.pointer (some ⟨b, 0, none⟩)] w fun e w' => e = .returned (.string ⟨l.toArray⟩) ∧ Below B w w' := Any.Builder_String_any Tryz.l169 bExtra B b l w h hBw
end Go.Proofs.YthknocapablpaaaGreatDoor

/- spans.Encode of any span. -/
namespace Go.Proofs.YthknocapablpaaaGreatDoor
set_option maxRecDepth 100000
open Go.RowKit Go.Lib

theorem putL_length : ∀ (m : Nat) (n : Int), (putL m n).length = m
 | 0, _ => rfl
 | 1, _ => rfl
 | m + 2, n => by simp [putL, putL_length (m + 1) n]
theorem putF_size (n : Int) : (putF n).size ≤ 10 := by
 unfold putF
 split
 ·exact Nat.zero_le _
 ·rw [strOfNums_size, putL_length]
  unfold putM
  have h : Lib.bitLenAux 64 n.toNat ≤ 64 := by
   have g : ∀ f x, Lib.bitLenAux f x ≤ f := by
    intro f
    induction f with
    | zero => intro x; exact Nat.le_refl _
    | succ f ih => intro x; unfold Lib.bitLenAux; split; omega; have := ih (x / 2); omega
   exact g 64 _
  unfold Lib.bitLen
  omega
/-- A text, with its length ahead. -/
def ptxt (t : ByteArray) : ByteArray := putF t.size ++ t
theorem ptxt_size (t : ByteArray) : (ptxt t).size ≤ t.size + 10 := by
 have := putF_size t.size
 unfold ptxt
 rw [ByteArray.size_append]
 omega
set_option maxRecDepth 100000 in
theorem puttext_all (t : ByteArray) (w : World) (h : t.size ≤ 4294967296) : Calls Tryz.prog 164 #[.string t] w fun e w' => e = .returned (.string (ptxt t)) ∧ Kept (fun _ => False) w w' := by
 have C := Lib.hid (put_all (t.size : Int) w (by omega))
 have z := putF_size t.size
 unfold ptxt
 go_enter Tryz.func164, Tryz.ntmps164
 go_wp2_with (go_at_call 165; refine C.out.mono ?_; rintro e w4 ⟨rfl, k4⟩)
 go_ret
 exact ⟨rfl, k4⟩

def textsV (p : Nat) : Value := .agg #[.pointer (some ⟨p, 3, none⟩), .pointer (some ⟨p, 4, none⟩), .pointer (some ⟨p, 7, none⟩)]
def offT : Nat → Nat | 0 => 3 | 1 => 4 | _ => 7
def textJ (m : Spn) : Nat → ByteArray | 0 => m.se | 1 => m.ho | _ => m.no
theorem ixT (p j : Nat) (hj : j < 3) (W : World) : (Instr.index 345 (textsV p) (.int .i64 (j : Int))).run Tryz.prog W = .ok (.pointer (some ⟨p, offT j, none⟩)) W := by
 obtain rfl | rfl | rfl : j = 0 ∨ j = 1 ∨ j = 2 := by omega
 all_goals kernel_rfl
theorem SpanAt.text {w : World} {g : Nat} {m : Spn} (h : SpanAt w g m) (j : Nat) : w.cell? ⟨g, offT j, none⟩ = some (.string (textJ m j)) := by
 match j with
 | 0 => exact h 3 _ rfl
 | 1 => exact h 4 _ rfl
 | j + 2 => exact h 7 _ rfl
set_option maxHeartbeats 4000000 in
set_option maxRecDepth 100000 in
theorem texts_any (p : Nat) (w : World) : Calls Tryz.prog 248 #[.pointer (some ⟨p, 0, none⟩)] w fun e w' => e = .returned (textsV p) ∧ Kept (fun _ => False) w w' := by
 go_enter Tryz.func248, Tryz.ntmps248
 go_wp2
 go_region
 all_goals go_wp2
 refine bodyPost_ret (v := _) (by simp [results, Tryz.results248, go_sem]; try rfl) rfl ?_
 exact ⟨rfl, ((Kept.refl _ w).alloc _).drew⟩

def accN (m : Spn) : Nat → List UInt8
 | 0 => []
 | i + 1 => accN m i ++ (putF (numJ m i)).data.toList
def accT (m : Spn) : Nat → List UInt8
 | 0 => accN m 5
 | i + 1 => accT m i ++ (ptxt (textJ m i)).data.toList
def encF (m : Spn) : ByteArray := ⟨(accT m 3).toArray⟩
theorem data_length (b : ByteArray) : b.data.toList.length = b.size := Array.length_toList
theorem accN_length (m : Spn) : ∀ i, (accN m i).length ≤ 10 * i
 | 0 => Nat.le_refl _
 | i + 1 => by
  have h := accN_length m i
  have z := putF_size (numJ m i)
  simp only [accN, List.length_append, data_length]
  omega
theorem accT_length (m : Spn) (h : ∀ j, (textJ m j).size ≤ 24) : ∀ i, (accT m i).length ≤ 50 + 34 * i
 | 0 => accN_length m 5
 | i + 1 => by
  have q := accT_length m h i
  have z := ptxt_size (textJ m i)
  have y := h i
  simp only [accT, List.length_append, data_length]
  omega

theorem kept_grown {w w' : World} (K : Kept (fun _ => False) w w') : w.grownBy w' none := ⟨K.os, K.tape, K.output, K.size, fun k hk _ => K.block k hk (fun h => h)⟩
theorem BuilderAt.keptF {T e : TypeId} {B b : Nat} {p : Value} {bs : List Value} {w w' : World} (h : Lib.BuilderAt T e B b p bs w) (K : Kept (fun _ => False) w w') : Lib.BuilderAt T e B b p bs w' := by
 have hl := Lib.BuilderAt.lt h
 obtain ⟨hB, v, hb, ho, hn⟩ := h
 refine ⟨hB, v, (K.block b hl (fun h => h)).trans hb, ho.kept (kept_grown K) ?_, hn⟩
 cases v.ownBlock with
 | none => exact .inl rfl
 | some k => exact .inr (fun h => by cases h)
theorem below_kept {B : Nat} {w w' : World} (h : Below B w w') : Kept (fun k => B ≤ k) w w' := ⟨h.os, h.tape, h.output, h.size, fun k _ hS => h.block k (Nat.lt_of_not_le hS)⟩
theorem IsBuilder.keptF {T e : TypeId} {B b : Nat} {bs : List Value} {w w' : World} (h : Lib.IsBuilder T e B b bs w) (K : Kept (fun _ => False) w w') : Lib.IsBuilder T e B b bs w' := h.elim (fun h => .inl (BuilderAt.keptF h K)) (fun h => .inr (BuilderAt.keptF h K))
end Go.Proofs.YthknocapablpaaaGreatDoor

/- journal.Encode: some text, not too long. -/
namespace Go.Proofs.YthknocapablpaaaGreatDoor
open Go.RowKit
set_option maxRecDepth 100000

/-- copyCheck: only the builder's own block turns, and its buffer stays. -/
theorem copy_keep (B b : Nat) (bs : List Value) (w : World) (p v0 : Value) (hv0 : w.heap[b]? = some (.cells #[p, v0] 263 (0, 0))) (h : Lib.IsBuilder 263 5 B b bs w) :
  Calls Tryz.prog 250 #[.pointer (some ⟨b, 0, none⟩)] w fun e w' => e = .returned (.tuple #[]) ∧ Lib.BuilderAt 263 5 B b (.pointer (some ⟨b, 0, none⟩)) bs w' ∧ Below B w w' ∧ Kept (fun q => q = b) w w' ∧ ∃ q, w'.heap[b]? = some (.cells #[q, v0] 263 (0, 0)) := by
 rcases h with h | h
 ·refine (copy_fresh b 0 2 w h.cell0 h.shape (by decide) (by kernel_rfl) h.frozen0).mono ?_
  rintro e w' ⟨rfl, rfl⟩
  refine ⟨rfl, h.used _, (Below.refl B w).setCell (p := ⟨b, 0, none⟩) h.1 _, (Kept.refl _ _).setAt (fun _ => rfl), .pointer (some ⟨b, 0, none⟩), ?_⟩
  simp [World.setCell, Array.getElem?_modify, hv0]
 ·refine (copy_used b 0 w h.cell0).mono ?_
  rintro e w' ⟨rfl, rfl⟩
  exact ⟨rfl, h, Below.refl B _, Kept.refl _ _, _, hv0⟩
set_option maxHeartbeats 2000000 in
set_option maxRecDepth 100000 in
theorem wri_keep (B b : Nat) (bs : List Value) (s : ByteArray) (w : World) (p v0 : Value) (hv0 : w.heap[b]? = some (.cells #[p, v0] 263 (0, 0))) (h : Lib.IsBuilder 263 5 B b bs w) (hlen : bs.length + s.size ≤ 140737488355328) (hBw : B ≤ w.heap.size) :
  Calls Tryz.prog 163 #[.pointer (some ⟨b, 0, none⟩), .string s] w fun e w' => e = .returned (.tuple #[.int .i64 s.size, .nilIface]) ∧ (Lib.BuilderAt 263 5 B b (.pointer (some ⟨b, 0, none⟩)) (bs ++ Lib.strCells s) w' ∧ Below B w w' ∧ Kept (fun q => q = b ∨ v0.ownBlock = some q) w w') := by
 obtain ⟨i0, hi, hz0, hz1, hz2⟩ := info_parts bExtra.infoByte
 go_enter Tryz.func163, Tryz.ntmps163
 go_wp2_with (go_at_call 250; refine (copy_keep B b bs _ p v0 hv0 h).mono ?_)
 rintro e w1 ⟨rfl, h1, hb1, kc, q, hq⟩
 obtain ⟨hB, v, hbk, hown, hne⟩ := h1
 obtain rfl : v = v0 := by
  have := hbk.symm.trans hq
  simp at this
  exact this.2
 have c0 : w1.cell? ⟨b, 0, none⟩ = some (.pointer (some ⟨b, 0, none⟩)) := by rw [Lib.cell_of_heap hbk]; rfl
 have c1 : w1.cell? ⟨b, 1, none⟩ = some v := by rw [Lib.cell_of_heap hbk]; rfl
 go_wp2_with (at_builtin; refine Lib.wpList_append_own_string _ rfl _ _ 48 9 rfl B 5 i0 Tryz.underlying48 Tryz.underlying9 hi hz0 hz1 hz2 _ _ _ rfl hown s rfl ?c3 ?c4 ?c5 ?_)
 case c3 => unfold maxLen; omega
 case c4 => omega
 case c5 => have := hb1.size; omega
 intro v' w2 hown' hgrow _
 have hlt : b < w1.heap.size := by
  rcases Nat.lt_or_ge b w1.heap.size with h' | h'
  ·exact h'
  ·simp [Array.getElem?_eq_none h'] at hbk
 have hb2 : w2.heap[b]? = some (.cells #[.pointer (some ⟨b, 0, none⟩), v] 263 (0, 0)) := by
  rw [hgrow.block b hlt (fun e => hne e.symm)]
  exact hbk
 have d0 : w2.cell? ⟨b, 0, none⟩ = some (.pointer (some ⟨b, 0, none⟩)) := by rw [Lib.cell_of_heap hb2]; rfl
 have d1 : w2.cell? ⟨b, 1, none⟩ = some v := by rw [Lib.cell_of_heap hb2]; rfl
 have f1 : w2.frozen? ⟨b, 1, none⟩ = false := Lib.frozen_of_heap hb2 1
 obtain ⟨ao, n', cap, rfl⟩ : ∃ ao n' cap, v' = .slice ao n' cap := by
  rcases hown'.2 with ⟨hv, _⟩ | ⟨g, cap, cur, hv, _⟩
  ·exact ⟨_, _, _, hv⟩
  ·exact ⟨_, _, _, hv⟩
 go_wp2
 go_ret2
 refine ⟨rfl, ?_, ?_, ?_⟩
 ·exact Lib.BuilderAt.put (T := 263) (e := 5) hB hb2 (bs' := bs ++ Lib.strCells s) (by simpa [Lib.strCells_length] using hown') bExtra.neB5
 ·exact (hb1.grown hgrow (by have := hb1.size; omega) (fun k hk => (hown.lt k hk).1)).setCell (p := ⟨b, 1, none⟩) hB _
 ·exact (Kept.setAt (fun _ => .inl rfl) ((kc.mono (fun k _ e => .inl e)).grown hgrow (fun k hk _ => .inr hk)))
set_option maxHeartbeats 4000000 in
theorem bcheck_any (c : Cel) (h : mayC c = true) (w : World) : Calls Tryz.prog 162 #[c.val] w fun e w' => e = .returned (.int .i64 0) ∧ Kept (fun _ => False) w w' := by
 have MY := Lib.hid (fun (W : World) => may_any c W)
 rw [h] at MY
 obtain ⟨ck, cs, cv⟩ := c
 unfold Cel.val at MY ⊢
 go_enter Tryz.func162, Tryz.ntmps162
 go_wp2_with (go_at_call 203; refine (MY.out _).mono ?_; rintro e w4 ⟨rfl, kk⟩)
 go_ret
 exact ⟨rfl, ((Kept.refl _ _).alloc _).trans kk (fun _ _ f => f) (fun _ _ f => f)⟩
end Go.Proofs.YthknocapablpaaaGreatDoor

/- journal.Encode: some text, not too long. -/
namespace Go.Proofs.YthknocapablpaaaGreatDoor
open Go.RowKit
set_option maxRecDepth 100000

/-- A cell's bytes in the journal. -/
def celT (c : Cel) : ByteArray := ptxt c.k ++ putF c.s ++ ptxt c.v
set_option maxHeartbeats 8000000 in
theorem jenc_any {w : World} {ao : Option Addr} {cap : Nat} {L : List Cel} (R : CelsR w ao L) (hm : ∀ c ∈ L, mayC c = true ∧ c.s ≤ 9223372036854775807) (hl : L.length ≤ 1000) :
  Calls Tryz.prog 97 #[.slice ao L.length cap] w fun e w' => (∃ b : ByteArray, b.size ≤ 230 * L.length ∧ e = .returned (.tuple #[.string b, .int .i64 0])) ∧ Kept (fun _ => False) w w' := by
 obtain ⟨n, hn⟩ : ∃ n, L.length = n := ⟨_, rfl⟩
 have HN := Lib.hid hn
 obtain ⟨B, hB⟩ : ∃ B, w.heap.size = B := ⟨_, rfl⟩
 obtain ⟨W0, hW0⟩ : ∃ W, w.alloc (Obj.cells #[.pointer none, .slice none 0 0] 263) = W := ⟨_, rfl⟩
 have k0 : Kept (fun _ => False) w W0 := by rw [← hW0]; exact (Kept.refl _ _).alloc _
 have b0 := Lib.fresh_isBuilder 263 5 w
 rw [hW0, hB] at b0
 have K0 := Lib.hid k0
 have B0 := Lib.hid b0
 have RR := Lib.hid R
 have HM := Lib.hid hm
 have HB := Lib.hid hB
 have HL := Lib.hid hl
 rw [hn] at hl ⊢
 clear R hm hn k0 b0
 go_enter Tryz.func97, Tryz.ntmps97
 go_wp2_with fail
 go_loopg [10] n (fun gh t10 wr => ∃ (i : Nat) (l : List UInt8), i + gh = n ∧ t10 = .int .i64 i ∧ l.length ≤ 230 * i ∧ Lib.IsBuilder 263 5 B B (Lib.byteCells l) wr ∧ Kept (fun _ => False) w wr)
 case atStart => exact ⟨0, [], by omega, rfl, by simp, B0.out, K0.out⟩
 case round =>
  obtain ⟨i, l, hgh, rfl, hll, hb, hk⟩ := hrel
  cases gk with
  | zero =>
   have hi : i = n := by omega
   subst hi
   have HBB := Lib.hid hb
   have HK := Lib.hid hk
   clear hb hk
   go_wp2_with (go_at_call 166; refine (str_all B B l _ HBB.out (by have := HB.out; have := HK.out.size; omega)).mono ?_; rintro e w5 ⟨rfl, l5⟩)
   go_ret2
   exact ⟨⟨_, by simp [ByteArray.size]; omega, rfl⟩, HK.out.trans (below_kept l5) (fun _ _ f => f) (fun b hb f => by have := HB.out; omega)⟩
  | succ gk =>
   have hi : i < L.length := by have := HN.out; omega
   have hne : ¬ L = [] := fun e => by rw [e] at hi; simp at hi
   obtain ⟨c, hc⟩ : ∃ c, L[i]? = some c := ⟨_, List.getElem?_eq_getElem hi⟩
   obtain ⟨g, o, rfl, hcl⟩ := RR.out.resolve_left hne
   obtain ⟨x0, x1, x2⟩ := (hcl i c hc).kept hk
   obtain ⟨hmay, hsi⟩ := HM.out c (List.mem_of_getElem? hc)
   have CH := Lib.hid (fun (W : World) => bcheck_any c hmay W)
   have SI := Lib.hid hsi
   have i1 : ((i : Nat) : Int) < (n : Int) := by omega
   have i2 : (0 : Int) ≤ (i : Int) := by omega
   have i4 : wrap64 ((i : Int) + 1) = ((i + 1 : Nat) : Int) := by have := HL.out; unfold wrap64; omega
   obtain ⟨sk, sv⟩ : c.k.size ≤ 64 ∧ c.v.size ≤ 128 := by
    unfold mayC at hmay
    simp at hmay
    omega
   obtain ⟨ck, cs, cv⟩ := c
   have SK := Lib.hid sk
   have SV := Lib.hid sv
   unfold Cel.val at CH
   simp only at SK SV SI x0 x1 x2
   have GH := Lib.hid hgh
   have HK := Lib.hid hk
   have HBB := Lib.hid hb
   have LN0 := Lib.hid hll
   obtain ⟨cb, hcb⟩ : ∃ q, wr.heap.size = q := ⟨_, rfl⟩
   obtain ⟨W1, hW1⟩ : ∃ W, wr.alloc (Obj.cells #[.string ck, .int .i64 cs, .string cv] 132) = W := ⟨_, rfl⟩
   have k1 : Kept (fun _ => False) wr W1 := by rw [← hW1]; exact (Kept.refl _ _).alloc _
   have y0 : W1.cell? ⟨cb, 0, none⟩ = some (.string ck) := by rw [← hW1, ← hcb]; simp [go_sem]
   have y1 : W1.cell? ⟨cb, 1, none⟩ = some (.int .i64 cs) := by rw [← hW1, ← hcb]; simp [go_sem]
   have y2 : W1.cell? ⟨cb, 2, none⟩ = some (.string cv) := by rw [← hW1, ← hcb]; simp [go_sem]
   have K1 := Lib.hid k1
   clear hgh hk hb hll hc hcl hi hne hmay hsi sk sv k1
   go_wp2_with (go_at_call 162; refine (CH.out _).mono ?_; rintro e w2 ⟨rfl, k2⟩; (have K2 := Lib.hid (K1.out.trans k2 (fun _ _ f => f) (fun _ _ f => f))); (have X0 := Lib.hid (k2.cell y0 (fun f => f))); (have X1 := Lib.hid (k2.cell y1 (fun f => f))); (have X2 := Lib.hid (k2.cell y2 (fun f => f))); clear k2)
   have B2 := Lib.hid (IsBuilder.keptF HBB.out K2.out)
   obtain ⟨p0, v0, hv0, hv1⟩ : ∃ p0 v0, wr.heap[B]? = some (.cells #[p0, v0] 263 (0, 0)) ∧ ∀ q, v0.ownBlock = some q → q < wr.heap.size := by
    rcases HBB.out with ⟨_, v, h1, h2, _⟩ | ⟨_, v, h1, h2, _⟩ <;> exact ⟨_, v, h1, fun q hq => (h2.lt q hq).2⟩
   have hBl : B < wr.heap.size := (Array.getElem?_eq_some_iff.1 hv0).1
   have HV := Lib.hid ((K2.out.block B hBl (fun f => f)).trans hv0)
   have NB := Lib.hid (show ¬ (cb = B ∨ v0.ownBlock = some cb) from fun e => by
    rcases e with e | e
    ·omega
    ·have := hv1 cb e; omega)
   have BW := Lib.hid (show B < w2.heap.size from by have := K2.out.size; omega)
   clear hv0 hv1 hBl
   have CT := Lib.hid (show (ptxt ck ++ putF cs ++ ptxt cv).size ≤ 230 from by
    rw [ByteArray.size_append, ByteArray.size_append]
    have := ptxt_size ck
    have := ptxt_size cv
    have := putF_size cs
    have := SK.out
    have := SV.out
    omega)
   have LL := Lib.hid (show i < 1000 from by have := GH.out; have := HL.out; have := HN.out; omega)
   have hq1 : ¬ 9223372036854775807 < (ptxt ck).size + (putF cs).size := by
    have := ptxt_size ck
    have := putF_size cs
    have := SK.out
    omega
   have hq2 : ¬ 9223372036854775807 < (ptxt ck).size + (putF cs).size + (ptxt cv).size := by
    have := ptxt_size ck
    have := ptxt_size cv
    have := putF_size cs
    have := SK.out
    have := SV.out
    omega
   clear y0 y1 y2 hcb hW1 x0 x1 x2
   refine wp_region_held_drew (S := (fun w' => w'.cell? ⟨cb, 0, none⟩ = some (.string ck) ∧ w'.cell? ⟨cb, 1, none⟩ = some (.int .i64 cs) ∧ w'.cell? ⟨cb, 2, none⟩ = some (.string cv))) (by kernel_rfl) ?_ (fun hHeld => ?_)
   ·exact ⟨X0.out, X1.out, X2.out⟩
   refine tW 0 opAt0 hHeld ?_
   (try simp only [Act.put]); try simp only [z2, List.set]
   refine tW 1 opAt1 hHeld ?_
   (try simp only [Act.put]); try simp only [z2, List.set]
   refine tW 3 opAt3 hHeld ?_
   (try simp only [Act.put]); try simp only [z2, List.set]
   refine tW 4 opAt4 hHeld ?_
   (try simp only [Act.put]); try simp only [z2, List.set]
   refine tW 7 opAt7 hHeld ?_
   (try simp only [Act.put]); try simp only [z2, List.set]
   refine tW 8 opAt8 hHeld ?_
   (try simp only [Act.put]); try simp only [z2, List.set]
   refine wpAnyH_ready (rs := [2]) (by kernel_rfl) (by simp) ?_
   refine AllReadyH.cons opAt2 (fun K hK => ?_) AllReadyH.nil
   go_simp
   (go_at_call 164; refine (puttext_all _ _ (by have := SK.out; omega)).mono ?_; rintro e wa ⟨rfl, kn⟩; (have KA := Lib.hid ((Kept.refl (fun _ => False) w2).drew.trans kn (fun _ _ f => f) (fun _ _ f => f))))
   refine hK.out _ _ ?_ (fun hHeld => ?_)
   ·exact ⟨kn.cell hHeld.1 (fun f => f), kn.cell hHeld.2.1 (fun f => f), kn.cell hHeld.2.2 (fun f => f)⟩
   clear hK K
   (try simp only [Act.put]); try simp only [z2, List.set]
   refine wpAnyH_ready (rs := [5]) (by kernel_rfl) (by simp) ?_
   refine AllReadyH.cons opAt5 (fun K hK => ?_) AllReadyH.nil
   go_simp
   (go_at_call 165; refine (put_all _ _ SI.out).mono ?_; rintro e wb ⟨rfl, kn⟩; (have KB := Lib.hid (KA.out.trans kn (fun _ _ f => f) (fun _ _ f => f))))
   refine hK.out _ _ ?_ (fun hHeld => ?_)
   ·exact ⟨kn.cell hHeld.1 (fun f => f), kn.cell hHeld.2.1 (fun f => f), kn.cell hHeld.2.2 (fun f => f)⟩
   clear hK K
   (try simp only [Act.put]); try simp only [z2, List.set]
   refine tW 6 opAt6 hHeld ?_
   (try simp only [Act.put]); try simp only [z2, List.set]
   refine wpAnyH_ready (rs := [9]) (by kernel_rfl) (by simp) ?_
   refine AllReadyH.cons opAt9 (fun K hK => ?_) AllReadyH.nil
   go_simp
   (go_at_call 164; refine (puttext_all _ _ (by have := SV.out; omega)).mono ?_; rintro e wc ⟨rfl, kn⟩; (have KC := Lib.hid (KB.out.trans kn (fun _ _ f => f) (fun _ _ f => f))))
   refine hK.out _ _ ?_ (fun hHeld => ?_)
   ·exact ⟨kn.cell hHeld.1 (fun f => f), kn.cell hHeld.2.1 (fun f => f), kn.cell hHeld.2.2 (fun f => f)⟩
   clear hK K
   (try simp only [Act.put]); try simp only [z2, List.set]
   refine tW 10 opAt10 hHeld ?_
   (try simp only [Act.put]); try simp only [z2, List.set]
   refine wpAnyH_ready (rs := [11]) (by kernel_rfl) (by simp) ?_
   refine AllReadyH.cons opAt11 (fun K hK => ?_) AllReadyH.nil
   go_simp
   (go_at_call 163; refine (wri_keep B B _ _ _ p0 v0 ((KC.out.block B BW.out (fun f => f)).trans HV.out) (IsBuilder.keptF B2.out KC.out) (by rw [Lib.byteCells_length]; have := LN0.out; have := CT.out; have := LL.out; omega) (by have := KC.out.size; have := BW.out; omega)).mono ?_; rintro e w9 ⟨rfl, b9, l9, kn⟩)
   refine hK.out _ _ ?_ (fun hHeld => ?_)
   ·exact ⟨kn.cell hHeld.1 NB.out, kn.cell hHeld.2.1 NB.out, kn.cell hHeld.2.2 NB.out⟩
   clear hK K
   (try simp only [Act.put]); try simp only [z2, List.set]
   refine wpAnyH_done (by kernel_rfl) ?_ _
   go_wp2
   go_roundg gk
   case measure => omega
   case rel =>
    refine ⟨i + 1, l ++ (ptxt ck ++ putF cs ++ ptxt cv).data.toList, by have := GH.out; omega, by simp, ?_, ?_, ?_⟩
    ·rw [List.length_append]
     have h1 : (ptxt ck ++ putF cs ++ ptxt cv).data.toList.length = (ptxt ck ++ putF cs ++ ptxt cv).size := rfl
     have := CT.out
     have := LN0.out
     omega
    ·rw [Lib.byteCells_append, ← Lib.strCells_eq]
     exact .inr b9
    ·exact ((HK.out.trans K2.out (fun _ _ f => f) (fun _ _ f => f)).trans KC.out (fun _ _ f => f) (fun _ _ f => f)).trans (below_kept l9) (T := fun _ => False) (fun _ _ f => f) (fun b hb f => by have := HB.out; omega)
end Go.Proofs.YthknocapablpaaaGreatDoor

/- journal.Append: a batch lies on the disk. -/
namespace Go.Proofs.YthknocapablpaaaGreatDoor
open Go.RowKit
set_option maxRecDepth 100000

theorem totF_append (F : List Fl) (f : Fl) : totF (F ++ [f]) = totF F + f.d.size := by
 simp [totF]
theorem totF_set : ∀ {F : List Fl} {i : Nat} {f : Fl} (g : Fl), F[i]? = some f → totF (F.set i g) + f.d.size = totF F + g.d.size
 | [], i, f, g, h => by simp at h
 | x :: F, 0, f, g, h => by
  simp at h
  subst h
  simp [totF]
  omega
 | x :: F, i + 1, f, g, h => by
  have h' : F[i]? = some f := by simpa using h
  have ih := totF_set g h'
  simp [totF] at ih ⊢
  omega
theorem empty_append_size (s : ByteArray) : ((⟨#[]⟩ : ByteArray) ++ s).size = s.size := by
 rw [ByteArray.size_append]
 have h : (⟨#[]⟩ : ByteArray).size = 0 := rfl
 omega
/-- What a disk's files are, roughly. -/
structure FlsOk (F : List Fl) (n t : Nat) : Prop where
 nm : ∀ f ∈ F, f.n.size ≤ 16
 ln : F.length ≤ n
 tt : totF F ≤ t
theorem dappend_any {w : World} {d fm : Nat} {room : Int} {F : List Fl} {s : ByteArray} {n t : Nat} (D : DiskOk w d fm room F) (O : FlsOk F n t) (hn : n ≤ 900) (ht : (t : Int) + s.size ≤ room) (hr : room ≤ 1048576) :
  Calls Tryz.prog 170 #[.pointer (some ⟨d, 0, none⟩), .string j1, .string s] w fun e w' => e = .returned (.int .i64 0) ∧ (∃ (F' : List Fl) (i : Nat) (f' : Fl), DiskOk w' d fm room F' ∧ F'[i]? = some f' ∧ f'.n = j1 ∧ FlsOk F' (n + 1) (t + s.size)) ∧ Kept (fun b => b = fm) w w' := by
 have j1s : j1.size = 2 := rfl
 have h1 := O.ln
 have h2 := O.tt
 by_cases h : ∃ (i : Nat) (f : Fl), F[i]? = some f ∧ f.n = j1
 ·obtain ⟨i, f, hf, hfn⟩ := h
  have A := append_old (s := s) D hf O.nm (by omega) (by rw [hfn, j1s]; omega) (by omega) hr
  rw [hfn] at A
  refine A.mono ?_
  rintro e w' ⟨rfl, D', K⟩
  have hil := (List.getElem?_eq_some_iff.1 hf).1
  refine ⟨rfl, ⟨_, i, ⟨j1, f.d ++ s, f.s⟩, D', ?_, rfl, ?_, ?_, ?_⟩, K⟩
  ·rw [List.getElem?_set]; simp [hil]
  ·intro x hx
   rcases List.mem_or_eq_of_mem_set hx with h | rfl
   ·exact O.nm x h
   ·simp [j1s]
  ·rw [List.length_set]; omega
  ·have := totF_set (⟨j1, f.d ++ s, f.s⟩ : Fl) hf
   simp only [ByteArray.size_append] at this
   omega
 ·have hf : ∀ f ∈ F, f.n ≠ j1 := fun f hf e => h (by
   obtain ⟨i, hi, ei⟩ := List.getElem_of_mem hf
   exact ⟨i, f, List.getElem?_eq_some_iff.2 ⟨hi, ei⟩, e⟩)
  refine (append_new (s := s) D hf (by rw [j1s]; omega) O.nm (by omega) (by rw [j1s]; omega) (by omega) hr).mono ?_
  rintro e w' ⟨rfl, D', K⟩
  refine ⟨rfl, ⟨_, F.length, ⟨j1, ⟨#[]⟩ ++ s, 0⟩, D', by simp, rfl, ?_, ?_, ?_⟩, K⟩
  ·intro x hx
   rcases List.mem_append.1 hx with h | h
   ·exact O.nm x h
   ·simp at h; subst h; simp [j1s]
  ·rw [List.length_append]; simp; omega
  ·rw [totF_append]
   simp only [empty_append_size]
   omega
theorem dsync_any {w : World} {d fm : Nat} {room : Int} {F : List Fl} {i n t : Nat} {f : Fl} (D : DiskOk w d fm room F) (hf : F[i]? = some f) (hn : f.n = j1) (O : FlsOk F n t) :
  Calls Tryz.prog 172 #[.pointer (some ⟨d, 0, none⟩), .string j1] w fun e w' => e = .returned (.int .i64 0) ∧ (∃ F', DiskOk w' d fm room F' ∧ FlsOk F' n t) ∧ Kept (fun b => b = fm) w w' := by
 have A := sync_any D hf
 rw [hn] at A
 refine A.mono ?_
 rintro e w' ⟨rfl, D', K⟩
 refine ⟨rfl, ⟨_, D', ?_, by rw [List.length_set]; exact O.ln, ?_⟩, K⟩
 ·intro x hx
  rcases List.mem_or_eq_of_mem_set hx with h | rfl
  ·exact O.nm x h
  ·show j1.size ≤ 16
   have j1s : j1.size = 2 := rfl
   omega
 ·have := totF_set (⟨j1, f.d, (f.d.size : Nat)⟩ : Fl) hf
  have := O.tt
  simp only at *
  omega
set_option maxHeartbeats 8000000 in
theorem jappend_any {w : World} {j d fm : Nat} {room : Int} {F : List Fl} {n t : Nat} {ao : Option Addr} {cap : Nat} {L : List Cel} (J : JrnOk w j d 1) (D : DiskOk w d fm room F) (O : FlsOk F n t) (hn : n ≤ 900) (R : CelsR w ao L) (hm : ∀ c ∈ L, mayC c = true ∧ c.s ≤ 9223372036854775807) (hl : L.length ≤ 50) (hne : L ≠ [])
  (ht : (t : Int) + 8 + 230 * L.length ≤ room) (hr : room ≤ 1048576) :
  Calls Tryz.prog 99 #[.pointer (some ⟨j, 0, none⟩), .slice ao L.length cap] w fun e w' => e = .returned (.int .i64 0) ∧ (∃ F', DiskOk w' d fm room F' ∧ FlsOk F' (n + 1) (t + 8 + 230 * L.length)) ∧ Kept (fun b => b = fm) w w' := by
 have jf : ¬ j = fm := fun e => by
  have h1 := J.c0
  rw [e, D.mp.not_cell] at h1
  cases h1
 have JJ := Lib.hid J
 have DD := Lib.hid D
 have OO := Lib.hid O
 have AS := Lib.hid (jask_any J D)
 have EN := Lib.hid (fun (W : World) (K : Kept (fun _ => False) w W) => jenc_any (w := W) (cap := cap) (R.kept K) hm (by omega))
 obtain ⟨m, hm'⟩ : ∃ m, L.length = m := ⟨_, rfl⟩
 have m0 : ¬ ((m : Int) = 0) := fun e => by
  have : L.length = 0 := by omega
  exact hne (List.eq_nil_of_length_eq_zero this)
 rw [hm'] at EN ht hl ⊢
 have HT := Lib.hid ht
 have HR := Lib.hid hr
 have HN := Lib.hid hn
 have HL := Lib.hid hl
 clear J D O R hm hne ht hr hn hl hm'
 go_enter Tryz.func99, Tryz.ntmps99
 go_wp2_with (first
  | (go_at_call 168; refine AS.out.mono ?_; rintro e w1 ⟨rfl, k1⟩; (have K1 := Lib.hid k1); clear k1)
  | (go_at_call 97; refine (EN.out _ K1.out).mono ?_; rintro e w2 ⟨⟨b, hb, rfl⟩, k2⟩; (have K2 := Lib.hid (K1.out.trans k2 (fun _ _ f => f) (fun _ _ f => f))); (have HB := Lib.hid hb); clear k2 hb)
  | (go_at_call 169; refine (frame_any b (by have := HB.out; have := HL.out; omega) _).mono ?_; rintro e w3 ⟨⟨f, hf, rfl⟩, k3⟩; (have K3 := Lib.hid (K2.out.trans k3 (fun _ _ f => f) (fun _ _ f => f))); (have HF := Lib.hid hf); clear k3 hf))
 have x0 := K3.out.cell JJ.out.c0 (fun f => f)
 have x3 := K3.out.cell JJ.out.c3 (fun f => f)
 have D3 := Lib.hid (DD.out.kept K3.out (fun f => f) (fun f => f))
 go_region_held3 (fun w' => w'.cell? ⟨j, 0, none⟩ = some (.pointer (some ⟨d, 0, none⟩)) ∧ w'.cell? ⟨j, 3, none⟩ = some (.int .i64 1)) (first | go_keep | (go_split_ands; exact ⟨kk.cell (by assumption) jf, kk.cell (by assumption) jf⟩))
  (first
   | (go_at_call 170; refine (dappend_any (D3.out.kept (Kept.refl (fun _ => False) _).drew (fun f => f) (fun f => f)) OO.out HN.out (by have := HF.out; have := HB.out; have := HT.out; omega) HR.out).mono ?_; rintro e w4 ⟨rfl, ⟨F4, i4, f4, d4, hf4, hn4, o4⟩, kk⟩; (have K4 := Lib.hid (K3.out.drew.trans kk (T := fun b => b = fm) (fun _ _ f => f.elim) (fun _ _ f => f))); (have D4 := Lib.hid d4); (have HF4 := Lib.hid (And.intro hf4 hn4)); (have O4 := Lib.hid o4); clear d4 hf4 hn4 o4)
   | (go_at_call 171; refine (named1 _).mono ?_; rintro e w9 ⟨rfl, rfl⟩))
 have y0 := K4.out.cell JJ.out.c0 jf
 have y3 := K4.out.cell JJ.out.c3 jf
 clear x0 x3 kk
 go_wp2_with fail
 go_region_held3 (fun w' => w'.cell? ⟨j, 0, none⟩ = some (.pointer (some ⟨d, 0, none⟩)) ∧ w'.cell? ⟨j, 3, none⟩ = some (.int .i64 1)) (first | go_keep | (go_split_ands; exact ⟨kk.cell (by assumption) jf, kk.cell (by assumption) jf⟩))
  (first
   | (go_at_call 172; refine (dsync_any (D4.out.kept (Kept.refl (fun _ => False) _).drew (fun f => f) (fun f => f)) HF4.out.1 HF4.out.2 O4.out).mono ?_; rintro e w5 ⟨rfl, ⟨F5, d5, o5⟩, kk⟩; (have K5 := Lib.hid (K4.out.drew.trans kk (T := fun b => b = fm) (fun _ _ f => f) (fun _ _ f => f))); (have D5 := Lib.hid d5); (have O5 := Lib.hid o5); clear d5 o5)
   | (go_at_call 171; refine (named1 _).mono ?_; rintro e w9 ⟨rfl, rfl⟩))
 go_wp2_with fail
 go_ret
 refine ⟨rfl, ⟨F5, D5.out, O5.out.nm, O5.out.ln, ?_⟩, K5.out⟩
 have := O5.out.tt
 have := HF.out
 have := HB.out
 omega
end Go.Proofs.YthknocapablpaaaGreatDoor

/- Calls by evaluation from blocks that are only read; edits.Check and manifest.State at the state that a new manifest has. -/
namespace Go.Proofs.YthknocapablpaaaGreatDoor
open Go.RowKit Go.Lib Go.Eng
set_option maxRecDepth 100000

theorem globs : Tryz.prog.globals.size = 6 := by kernel_rfl
theorem noGo : NoGo Tryz.prog = true := by decide +kernel
def envT (W : World) : Env := ⟨fun _ => undef, fun k => W.heap[k]?⟩
/-- A heap of names that are only read, wherever their cells begin. -/
structure RoO (s : Sig) (h : Heap) (c : Nat) (w : World) : Prop where
 glob : ∀ g, g < 6 → s g = some ⟨g, 0, 0⟩
 new : ∀ n, c ≤ n → s n = none
 obj : ∀ n o, h.get n = some o → ∃ b f, s n = some ⟨b, f, 0⟩ ∧ ∃ t cs, o = .ro t cs ∧ ∃ (a : Array Value) (fr : Nat × Nat) (vs : List Value) (t : TypeId), w.heap[b]? = some (.cells a t fr) ∧ concs s (envT w) cs = some vs ∧ (∀ (i : Nat) (v : Value), vs[i]? = some v → a[f + i]? = some v) ∧ allOne vs = true
 inj : ∀ n m l k, (h.get n).isSome = true → (h.get m).isSome = true → s n = some l → s m = some k → l.blk = k.blk → n = m
theorem RoO.start {s : Sig} {h : Heap} {c : Nat} {w : World} (H : RoO s h c w) : HR Tryz.prog s (envT w) h c w := by
 refine ⟨fun n o hn => ?_, H.inj, H.new, fun g hg => ⟨0, H.glob g (by rwa [globs] at hg)⟩⟩
 obtain ⟨b, f, h1, t, cs, rfl, a, fr, vs, t0, g1, g2, g3, g4⟩ := H.obj n o hn
 exact ⟨_, h1, a, fr, vs, t0, g1, g2, g3, g4, g1⟩
theorem RoO.stop {s σ' : Sig} {h h' : Heap} {c c' : Nat} {w w' : World} (H : RoO s h c w) (W : Went Tryz.prog (envT w) s h c w σ' h' c' w') (hk : ∀ n o, h.get n = some o → ∃ t cs, h'.get n = some (.ro t cs)) : Kept (fun _ => False) w w' := by
 refine ⟨W.kept.os, W.kept.tape, W.kept.output, W.kept.size, fun k hk' _ => ?_⟩
 by_cases q : Liv s h k
 ·obtain ⟨n, l, h1, h2, rfl⟩ := q
  cases e : h.get n with
  | none => rw [e] at h1; cases h1
  | some o =>
   obtain ⟨b, f, k1, t, cs, rfl, a, fr, vs, t0, g1, _, _, _⟩ := H.obj n o e
   rw [k1] at h2
   cases h2
   obtain ⟨t', cs', e'⟩ := hk n _ e
   obtain ⟨l', hl', a', fr', vs', t0', g1', _, _, _, g5'⟩ := W.rel.obj n _ e'
   rw [W.ext _ _ k1] at hl'
   cases hl'
   show w'.heap[b]? = w.heap[b]?
   simp only at g1' g5'
   rw [g1']
   exact g5'.symm
 ·exact W.kept.block k hk' q
/-- What an evaluation comes to, and that the names that are only read are there. -/
noncomputable def isChk (n : Nat) (h : Heap) (ck : AV → Heap → Bool) : Option CRes → Bool
 | some (.mk u h' _) => ck u h' && roSame n h h'
 | none => false
theorem calls_roN {s : Sig} {n f c : Nat} {fn : Func} {args : List AV} {h : Heap} {ck : AV → Heap → Bool} (he : isChk c h ck (callE Tryz.prog sm0 n (.fn f) args h c) = true) (hf : Tryz.prog.funcs[f]? = some fn) (hb : fn.body.isSome = true) {w : World} {avs : List Value} (H : RoO s h c w) (hc : ∀ m o, h.get m = some o → m < c) (ha : concs s (envT w) args = some avs) :
  Calls Tryz.prog f avs.toArray w fun e w' => (∃ v h' c' u σ', ck v h' = true ∧ e = .returned u ∧ conc σ' (envT w) v = some u ∧ HR Tryz.prog σ' (envT w) h' c' w' ∧ Ext s σ' ∧ (∀ m o, h.get m = some o → ∃ t cs, h'.get m = some (.ro t cs)) ∧ ∀ b, b < w.heap.size → Liv σ' h' b → Liv s h b) ∧ Kept (fun _ => False) w w' := by
 obtain ⟨v, h', c', he, hr⟩ : ∃ v h' c', callE Tryz.prog sm0 n (.fn f) args h c = some (.mk v h' c') ∧ (ck v h' && roSame c h h') = true := by
  cases e : callE Tryz.prog sm0 n (.fn f) args h c with
  | none => rw [e] at he; cases he
  | some x =>
   obtain ⟨v, h', c'⟩ := x
   rw [e] at he
   exact ⟨v, h', c', rfl, he⟩
 rw [Bool.and_eq_true] at hr
 refine (calls_of_callE (by kernel_rfl) noGo sm0_ok he hf hb H.start ha).mono ?_
 rintro e w' ⟨u', σ', rfl, q, W⟩
 have hk : ∀ m o, h.get m = some o → ∃ t cs, h'.get m = some (.ro t cs) := fun m o hn => ro_names (hc m o hn) hn hr.2
 exact ⟨⟨v, h', c', u', σ', hr.1, rfl, q, W.rel, W.ext, hk, W.liv⟩, H.stop W hk⟩
/-- The first tablet: from the first key on, without tables. -/
def TabAt (w : World) (tb o : Nat) : Prop := ∃ (C : Array Value) (t : TypeId) (fr : Nat × Nat), w.heap[tb]? = some (.cells C t fr) ∧ C[o]? = some (.string ⟨#[]⟩) ∧ C[o + 1]? = some (.slice none 0 0)
theorem TabAt.kept {S : Nat → Prop} {w w' : World} {tb o : Nat} (h : TabAt w tb o) (K : Kept S w w') (hS : ¬ S tb) : TabAt w' tb o := by
 obtain ⟨C, t, fr, h1, h2⟩ := h
 exact ⟨C, t, fr, (K.block tb (Array.getElem?_eq_some_iff.1 h1).1 hS).trans h1, h2⟩
theorem TabAt.cells {w : World} {tb o : Nat} (h : TabAt w tb o) : w.cell? ⟨tb, o, none⟩ = some (.string ⟨#[]⟩) ∧ w.cell? ⟨tb, o + 1, none⟩ = some (.slice none 0 0) := by
 obtain ⟨C, t, fr, h1, h2, h3⟩ := h
 simp [World.cell?, h1, h2, h3]
/-- A manifest that works: its state is the first one. -/
def ManAt (w : World) (mb d tb o : Nat) : Prop := mb ≠ tb ∧ TabAt w tb o ∧ ∃ (C : Array Value) (t : TypeId) (fr : Nat × Nat), w.heap[mb]? = some (.cells C t fr) ∧ C[0]? = some (.pointer (some ⟨d, 0, none⟩)) ∧ C[3]? = some (.slice (some ⟨tb, o, none⟩) 1 1) ∧ C[4]? = some (.int .i64 1) ∧ C[5]? = some (.int .i64 2) ∧ C[1]? = some (.int .i64 0) ∧ C[2]? = some (.bool false)
theorem ManAt.kept {S : Nat → Prop} {w w' : World} {mb d tb o : Nat} (h : ManAt w mb d tb o) (K : Kept S w w') (h1 : ¬ S mb) (h2 : ¬ S tb) : ManAt w' mb d tb o := by
 obtain ⟨h0, ht, C, t, fr, g1, g2⟩ := h
 exact ⟨h0, ht.kept K h2, C, t, fr, (K.block mb (Array.getElem?_eq_some_iff.1 g1).1 h1).trans g1, g2⟩
def hM : Heap := Tr.set deep (Tr.set deep Tr.nil 6 (some (.ro 114 [.ptr 8 0, .int .i64 (.ofNat 0), .bool false, .slice 7 0 1 1 false, .int .i64 (.ofNat 1), .int .i64 (.ofNat 2)]))) 7 (some (.ro 215 [.str [], .nils]))
def sigM (mb tb o d : Nat) : Sig := fun n => if n < 6 then some ⟨n, 0, 0⟩ else if n = 6 then some ⟨mb, 0, 0⟩ else if n = 7 then some ⟨tb, o, 0⟩ else if n = 8 then some ⟨d, 0, 0⟩ else none
theorem hM7 : hM.get 7 = some (.ro 215 [.str [], .nils]) := Tr.get_set_same deep _ 7 _ (by decide)
theorem hM6 : hM.get 6 = some (.ro 114 [.ptr 8 0, .int .i64 (.ofNat 0), .bool false, .slice 7 0 1 1 false, .int .i64 (.ofNat 1), .int .i64 (.ofNat 2)]) := by
 unfold hM
 rw [Tr.get_set_other deep _ 7 6 _ (by decide)]
 exact Tr.get_set_same deep Tr.nil 6 _ (by decide)
theorem hMo {n : Nat} (h : n ≠ 6) (h' : n ≠ 7) : hM.get n = none := by
 unfold hM
 rw [Tr.get_set_other deep _ 7 n _ (Ne.symm h'), Tr.get_set_other deep Tr.nil 6 n _ (Ne.symm h)]
 rfl
theorem hMc : ∀ m o, hM.get m = some o → m < 9 := fun m o e => by
 by_cases q : m = 6
 ·omega
 ·by_cases q' : m = 7
  ·omega
  ·rw [hMo q q'] at e; cases e
theorem roM {W : World} {mb d tb o : Nat} (h : ManAt W mb d tb o) : RoO (sigM mb tb o d) hM 9 W := by
 obtain ⟨h0, ⟨T, tt, tf, t1, t2, t3⟩, C, t, fr, g1, c0, c3, c4, c5, c1, c2⟩ := h
 have s6 : sigM mb tb o d 6 = some ⟨mb, 0, 0⟩ := rfl
 have s7 : sigM mb tb o d 7 = some ⟨tb, o, 0⟩ := rfl
 refine ⟨fun g hg => by simp [sigM, hg], fun n hn => ?_, fun n o' hn => ?_, fun n m l k hn hm hl hk e => ?_⟩
 ·unfold sigM
  rw [if_neg (by omega), if_neg (by omega), if_neg (by omega), if_neg (by omega)]
 ·by_cases e : n = 6
  ·subst e
   rw [hM6] at hn
   cases hn
   refine ⟨mb, 0, s6, 114, _, rfl, C, fr, [.pointer (some ⟨d, 0, none⟩), .int .i64 0, .bool false, .slice (some ⟨tb, o, none⟩) 1 1, .int .i64 1, .int .i64 2], t, g1, rfl, fun i v hi => ?_, rfl⟩
   rw [Nat.zero_add]
   match i, hi with
   | 0, hi => simp at hi; subst hi; exact c0
   | 1, hi => simp at hi; subst hi; exact c1
   | 2, hi => simp at hi; subst hi; exact c2
   | 3, hi => simp at hi; subst hi; exact c3
   | 4, hi => simp at hi; subst hi; exact c4
   | 5, hi => simp at hi; subst hi; exact c5
   | i + 6, hi => simp at hi
  ·by_cases e7 : n = 7
   ·subst e7
    rw [hM7] at hn
    cases hn
    refine ⟨tb, o, s7, 215, _, rfl, T, tf, [.string ⟨#[]⟩, .slice none 0 0], tt, t1, rfl, fun i v hi => ?_, rfl⟩
    match i, hi with
    | 0, hi => simp at hi; subst hi; exact t2
    | 1, hi => simp at hi; subst hi; exact t3
    | i + 2, hi => simp at hi
   ·rw [hMo e e7] at hn; cases hn
 ·have key : ∀ n, (hM.get n).isSome = true → n = 6 ∨ n = 7 := fun n h => by
   by_cases e : n = 6
   ·exact .inl e
   ·by_cases e7 : n = 7
    ·exact .inr e7
    ·rw [hMo e e7] at h; cases h
  rcases key n hn with rfl | rfl <;> rcases key m hm with rfl | rfl
  ·rfl
  ·rw [s6] at hl; rw [s7] at hk; cases hl; cases hk; exact absurd e h0
  ·rw [s7] at hl; rw [s6] at hk; cases hl; cases hk; exact absurd e.symm h0
  ·rfl
def stV (tb o : Nat) : Value := .agg #[.slice (some ⟨tb, o, none⟩) 1 1, .int .i64 1, .int .i64 2]
/-- The state: a slice of one tablet that is new. -/
noncomputable def ckSt : AV → Heap → Bool
 | .agg [.slice n 0 1 1 false, .int .i64 (.ofNat 1), .int .i64 (.ofNat 2)], h => Nat.ble 9 n && (match h.get n with
  | some (.cells _ [.str [], .nils]) => true
  | _ => false)
 | _, _ => false
theorem state_ev : isChk 9 hM ckSt (callE Tryz.prog sm0 100 (.fn 61) [.ptr 6 0] hM 9) = true := by decide +kernel
theorem mstate_any {w : World} {mb d tb o : Nat} (h : ManAt w mb d tb o) : Calls Tryz.prog 61 #[.pointer (some ⟨mb, 0, none⟩)] w fun e w' => (∃ tb' o', e = .returned (stV tb' o') ∧ TabAt w' tb' o' ∧ w.heap.size ≤ tb') ∧ Kept (fun _ => False) w w' := by
 have ha : concs (sigM mb tb o d) (envT w) [.ptr 6 0] = some [.pointer (some ⟨mb, 0, none⟩)] := rfl
 refine (calls_roN state_ev Tryz.func61 (by kernel_rfl) (roM h) hMc ha).mono ?_
 rintro e w' ⟨⟨v, h', c', u, σ', hck, rfl, hu, H, hx, hk', hl⟩, K⟩
 refine ⟨?_, K⟩
 unfold ckSt at hck
 split at hck
 ·rename_i n
  rw [Bool.and_eq_true] at hck
  obtain ⟨hn, hck⟩ := hck
  split at hck
  ·rename_i t hg
   obtain ⟨l, hl', a, fr, vs, g1, _, g3, _, g5, _⟩ := H.obj n _ hg
   have e3 : vs = [.string ⟨#[]⟩, .slice none 0 0] := by
    have : concs σ' (envT w) [.str [], .nils] = some [.string ⟨#[]⟩, .slice none 0 0] := rfl
    rw [this] at g3
    exact (Option.some.inj g3).symm
   subst e3
   obtain ⟨us, q1, q2, rfl⟩ := conc_agg.1 hu
   obtain ⟨x, r1, p1, p2, rfl⟩ := concs_cons.1 q1
   obtain ⟨l2, k1, rfl⟩ := conc_slice.1 p1
   rw [hl'] at k1
   cases k1
   have e4 : r1 = [.int .i64 1, .int .i64 2] := by
    have : concs σ' (envT w) [.int .i64 (.ofNat 1), .int .i64 (.ofNat 2)] = some [.int .i64 1, .int .i64 2] := rfl
    rw [this] at p2
    exact (Option.some.inj p2).symm
   subst e4
   refine ⟨l.blk, l.off, rfl, ⟨a, t, fr, g1, g5 0 _ rfl, g5 1 _ rfl⟩, ?_⟩
   rcases Nat.lt_or_ge l.blk w.heap.size with q | q
   ·obtain ⟨m, k, hm, hk, e⟩ := hl l.blk q ⟨n, l, by rw [hg]; rfl, hl', rfl⟩
    obtain ⟨o', ho'⟩ := Option.isSome_iff_exists.1 hm
    obtain ⟨t', cs', e'⟩ := hk' m o' ho'
    have en := H.inj n m l k (by rw [hg]; rfl) (by rw [e']; rfl) hl' (hx _ _ hk) e.symm
    subst en
    rw [hg] at e'
    cases e'
   ·exact q
  ·cases hck
 ·cases hck
/-- The one tablet, as a name that is only read. -/
def hT : Heap := Tr.set deep Tr.nil 6 (some (.ro 215 [.str [], .nils]))
def sigT (tb o : Nat) : Sig := fun n => if n < 6 then some ⟨n, 0, 0⟩ else if n = 6 then some ⟨tb, o, 0⟩ else none
theorem hT6 : hT.get 6 = some (.ro 215 [.str [], .nils]) := Tr.get_set_same deep Tr.nil 6 _ (by decide)
theorem hTo {n : Nat} (h : n ≠ 6) : hT.get n = none := by
 unfold hT
 rw [Tr.get_set_other deep Tr.nil 6 n _ (Ne.symm h)]
 rfl
theorem hTc : ∀ m o, hT.get m = some o → m < 7 := fun m o e => by
 by_cases q : m = 6
 ·omega
 ·rw [hTo q] at e; cases e
theorem roT {W : World} {tb o : Nat} (h : TabAt W tb o) : RoO (sigT tb o) hT 7 W := by
 obtain ⟨T, tt, tf, t1, t2, t3⟩ := h
 have s6 : sigT tb o 6 = some ⟨tb, o, 0⟩ := rfl
 refine ⟨fun g hg => by simp [sigT, hg], fun n hn => ?_, fun n o' hn => ?_, fun n m l k hn hm hl hk e => ?_⟩
 ·unfold sigT
  rw [if_neg (by omega), if_neg (by omega)]
 ·by_cases e7 : n = 6
  ·subst e7
   rw [hT6] at hn
   cases hn
   refine ⟨tb, o, s6, 215, _, rfl, T, tf, [.string ⟨#[]⟩, .slice none 0 0], tt, t1, rfl, fun i v hi => ?_, rfl⟩
   match i, hi with
   | 0, hi => simp at hi; subst hi; exact t2
   | 1, hi => simp at hi; subst hi; exact t3
   | i + 2, hi => simp at hi
  ·rw [hTo e7] at hn; cases hn
 ·by_cases en : n = 6
  ·by_cases em : m = 6
   ·rw [en, em]
   ·rw [hTo em] at hm; cases hm
  ·rw [hTo en] at hn; cases hn
def stA : AV := .agg [.slice 6 0 1 1 false, .int .i64 (.ofNat 1), .int .i64 (.ofNat 2)]
noncomputable def ckIs (v : AV) : AV → Heap → Bool := fun u _ => avEq u v
theorem check_ev : isChk 7 hT (ckIs (.bool true)) (callE Tryz.prog sm0 100 (.fn 119) [stA] hT 7) = true := by decide +kernel
theorem check_st {w : World} {tb o : Nat} (h : TabAt w tb o) : Calls Tryz.prog 119 #[stV tb o] w fun e w' => e = .returned (.bool true) ∧ Kept (fun _ => False) w w' := by
 have ha : concs (sigT tb o) (envT w) [stA] = some [stV tb o] := rfl
 refine (calls_roN check_ev Tryz.func119 (by kernel_rfl) (roT h) hTc ha).mono ?_
 rintro e w' ⟨⟨v, h', c', u, σ', hck, rfl, hu, _⟩, K⟩
 have := avEq_eq hck
 subst this
 have e2 : conc σ' (envT w) (.bool true) = some (.bool true) := rfl
 rw [e2] at hu
 cases hu
 exact ⟨rfl, K⟩
theorem stretch_ev : isChk 7 hT (ckIs (.tup [.str [], .str [], .bool true])) (callE Tryz.prog sm0 100 (.fn 134) [stA, .int .i64 (.ofNat 0)] hT 7) = true := by decide +kernel
theorem stretch_st {w : World} {tb o : Nat} (h : TabAt w tb o) : Calls Tryz.prog 134 #[stV tb o, .int .i64 0] w fun e w' => e = .returned (.tuple #[.string ⟨#[]⟩, .string ⟨#[]⟩, .bool true]) ∧ Kept (fun _ => False) w w' := by
 have ha : concs (sigT tb o) (envT w) [stA, .int .i64 (.ofNat 0)] = some [stV tb o, .int .i64 0] := rfl
 refine (calls_roN stretch_ev Tryz.func134 (by kernel_rfl) (roT h) hTc ha).mono ?_
 rintro e w' ⟨⟨v, h', c', u, σ', hck, rfl, hu, _⟩, K⟩
 have := avEq_eq hck
 subst this
 have e2 : conc σ' (envT w) (.tup [.str [], .str [], .bool true]) = some (.tuple #[.string ⟨#[]⟩, .string ⟨#[]⟩, .bool true]) := rfl
 rw [e2] at hu
 cases hu
 exact ⟨rfl, K⟩
end Go.Proofs.YthknocapablpaaaGreatDoor

/- edits.Find at the state that a new manifest has. -/
namespace Go.Proofs.YthknocapablpaaaGreatDoor
open Go.RowKit
set_option maxRecDepth 100000

theorem empty_less {key : ByteArray} (hk : key ≠ ⟨#[]⟩) : Op.bytesLess [] key.toList = true := by
 have e1 : (⟨#[]⟩ : ByteArray).toList = [] := by rw [ByteArray.toList_eq]
 have h : sLt ⟨#[]⟩ key = true := by
  rw [sLt_iff]
  have e0 : (⟨#[]⟩ : ByteArray).toList = [] := by rw [ByteArray.toList_eq]
  rw [e0]
  cases h : key.toList with
  | nil => exact absurd (bytes_eq (h.trans e0.symm)) hk
  | cons a l => exact List.nil_lt_cons _ _
 unfold sLt at h
 rwa [e1] at h
set_option maxHeartbeats 4000000 in
theorem find1_any {key : ByteArray} (hk : key ≠ ⟨#[]⟩) (w : World) : Calls Tryz.prog 161 #[.agg #[.string ⟨#[]⟩, .slice none 0 0], .string key] w fun e w' => e = .returned (.int .i64 (-1)) ∧ Kept (fun _ => False) w w' := by
 have h := empty_less hk
 go_enter Tryz.func161, Tryz.ntmps161
 go_wp2
 go_ret
 exact ⟨rfl, (Kept.refl _ _).alloc _⟩
set_option maxHeartbeats 4000000 in
theorem find160_any {key : ByteArray} {w : World} {tb o : Nat} (h : TabAt w tb o) (hk : key ≠ ⟨#[]⟩) : Calls Tryz.prog 160 #[.slice (some ⟨tb, o, none⟩) 1 1, .string key, .func (.func 161) #[] #[]] w fun e w' => e = .returned (.tuple #[.int .i64 1, .bool false]) ∧ Kept (fun _ => False) w w' := by
 obtain ⟨y0, y1⟩ := h.cells
 have F := Lib.hid (fun (W : World) => find1_any hk W)
 clear h hk
 go_enter Tryz.func160, Tryz.ntmps160
 go_wp2_with fail
 refine wp_loop_rounds 2 ?_
 rw [rounds_succ]
 go_wp2_with (go_at_call 161; refine (F.out _).mono ?_; rintro e w1 ⟨rfl, k1⟩)
 rw [rounds_succ]
 go_wp2_with fail
 go_ret2
 exact ⟨rfl, k1⟩
set_option maxHeartbeats 4000000 in
theorem find_any {key : ByteArray} {w : World} {tb o : Nat} (h : TabAt w tb o) (hk : key ≠ ⟨#[]⟩) : Calls Tryz.prog 95 #[stV tb o, .string key] w fun e w' => e = .returned (.int .i64 0) ∧ Kept (fun _ => False) w w' := by
 obtain ⟨q, hq⟩ : ∃ q, w.heap.size = q := ⟨_, rfl⟩
 obtain ⟨W0, hW0⟩ : ∃ W, w.alloc (Obj.cells #[.slice (some ⟨tb, o, none⟩) 1 1, .int .i64 1, .int .i64 2] 121) = W := ⟨_, rfl⟩
 have k0 : Kept (fun _ => False) w W0 := by rw [← hW0]; exact (Kept.refl _ _).alloc _
 have y0 : W0.cell? ⟨q, 0, none⟩ = some (.slice (some ⟨tb, o, none⟩) 1 1) := by rw [← hW0, ← hq]; simp [go_sem]
 have y1 : W0.cell? ⟨q, 1, none⟩ = some (.int .i64 1) := by rw [← hW0, ← hq]; simp [go_sem]
 have y2 : W0.cell? ⟨q, 2, none⟩ = some (.int .i64 2) := by rw [← hW0, ← hq]; simp [go_sem]
 have TT := Lib.hid (h.kept k0 (fun f => f))
 have CK := Lib.hid (check_st TT.out)
 have FK := Lib.hid (fun (W : World) (K : Kept (fun _ => False) W0 W) => find160_any (key := key) (TT.out.kept K (fun f => f)) hk)
 have K0 := Lib.hid k0
 unfold stV at CK ⊢
 clear h hk k0
 go_enter Tryz.func95, Tryz.ntmps95
 go_wp2_with (first
  | (go_at_call 119; refine CK.out.mono ?_; rintro e w1 ⟨rfl, k1⟩; (have z0 := k1.cell y0 (fun f => f)); (have K1 := Lib.hid k1))
  | (go_at_call 160; refine (FK.out _ K1.out).mono ?_; rintro e w2 ⟨rfl, k2⟩))
 go_ret
 exact ⟨rfl, (K0.out.trans K1.out (fun _ _ f => f) (fun _ _ f => f)).trans k2 (fun _ _ f => f) (fun _ _ f => f)⟩
end Go.Proofs.YthknocapablpaaaGreatDoor

/- The store: where it lies; ask, tablet. -/
namespace Go.Proofs.YthknocapablpaaaGreatDoor
open Go.RowKit
set_option maxRecDepth 100000

/-- The blocks of a store. -/
structure Sto where
 s : Nat
 d : Nat
 mb : Nat
 j : Nat
 gm : Nat
 m : Nat
 tb : Nat
 o : Nat
 fm : Nat
 cm : Nat
/-- The blocks of a store that stay as they are. -/
def Sto.still (S : Sto) (b : Nat) : Prop := b = S.d ∨ b = S.mb ∨ b = S.j ∨ b = S.gm ∨ b = S.tb
/-- Those that may turn. -/
def Sto.turn (S : Sto) (own : Nat → Prop) (b : Nat) : Prop := own b ∨ b = S.s ∨ b = S.fm
/-- A store that works, with one tablet and no table; its memory's pages; its last Seq. -/
structure StAt (S : Sto) (own : Nat → Prop) (w : World) (F : List Fl) (n t : Nat) (ps : List Pg) (q : Int) : Prop where
 c0 : w.cell? ⟨S.s, 0, none⟩ = some (.pointer (some ⟨S.d, 0, none⟩))
 c1 : w.cell? ⟨S.s, 1, none⟩ = some (.pointer (some ⟨S.mb, 0, none⟩))
 c2 : w.cell? ⟨S.s, 2, none⟩ = some (.pointer (some ⟨S.j, 0, none⟩))
 c3 : w.cell? ⟨S.s, 3, none⟩ = some (.slice (some ⟨S.gm, 0, none⟩) 1 S.cm)
 c5 : w.cell? ⟨S.s, 5, none⟩ = some (.int .i64 q)
 f5 : w.frozen? ⟨S.s, 5, none⟩ = false
 g0 : w.cell? ⟨S.gm, 0, none⟩ = some (.pointer (some ⟨S.m, 0, none⟩))
 man : ManAt w S.mb S.d S.tb S.o
 jrn : JrnOk w S.j S.d 1
 dsk : DiskOk w S.d S.fm 1048576 F
 fls : FlsOk F n t
 mem : MemB own w S.m ps
 srt : SortedC (allP ps)
 st : ∀ b, S.still b → ¬ S.turn own b
 os : ¬ own S.s
 of : ¬ own S.fm
 ob : ∀ b, own b → b < w.heap.size
theorem StAt.kept {S : Sto} {own T : Nat → Prop} {w w' : World} {F : List Fl} {n t : Nat} {ps : List Pg} {q : Int} (h : StAt S own w F n t ps q) (K : Kept T w w') (h1 : ∀ b, S.still b → ¬ T b) (h2 : ∀ b, S.turn own b → ¬ T b) : StAt S own w' F n t ps q := by
 have hs := h2 S.s (.inr (.inl rfl))
 have hf := h2 S.fm (.inr (.inr rfl))
 have hd := h1 S.d (.inl rfl)
 have hm := h1 S.mb (.inr (.inl rfl))
 have hj := h1 S.j (.inr (.inr (.inl rfl)))
 have hg := h1 S.gm (.inr (.inr (.inr (.inl rfl))))
 have ht := h1 S.tb (.inr (.inr (.inr (.inr rfl))))
 exact ⟨K.cell h.c0 hs, K.cell h.c1 hs, K.cell h.c2 hs, K.cell h.c3 hs, K.cell h.c5 hs, K.frozen h.f5 (World.block_lt_of_cell? _ _ h.c5) hs, K.cell h.g0 hg, h.man.kept K hm ht, h.jrn.kept K hj, h.dsk.kept K hd hf, h.fls, h.mem.kept K (fun b hb => h2 b (.inl hb)), h.srt, h.st, h.os, h.of, fun b hb => Nat.lt_of_lt_of_le (h.ob b hb) K.size⟩
theorem StAt.keptF {S : Sto} {own : Nat → Prop} {w w' : World} {F : List Fl} {n t : Nat} {ps : List Pg} {q : Int} (h : StAt S own w F n t ps q) (K : Kept (fun _ => False) w w') : StAt S own w' F n t ps q := h.kept K (fun _ _ f => f) (fun _ _ f => f)
section
variable {S : Sto} {own : Nat → Prop} {w : World} {F : List Fl} {n t : Nat} {ps : List Pg} {q : Int}
theorem snone_any (h : StAt S own w F n t ps q) : Calls Tryz.prog 128 #[.pointer (some ⟨S.s, 0, none⟩)] w fun e w' => e = .returned (.bool false) ∧ w = w' := by
 have c0 := h.c0
 obtain ⟨s, d, mb, j, gm, m, tb, o, fm, cm⟩ := S
 simp only at c0 ⊢
 clear h
 go_enter Tryz.func128, Tryz.ntmps128
 go_wp2
 go_ret
 exact ⟨rfl, rfl⟩
theorem sask_any (h : StAt S own w F n t ps q) : Calls Tryz.prog 69 #[.pointer (some ⟨S.s, 0, none⟩)] w fun e w' => e = .returned (.int .i64 0) ∧ Kept (fun _ => False) w w' := by
 have c2 := h.c2
 have SN := Lib.hid (snone_any h)
 have JN := Lib.hid (jnumber_any h.jrn h.dsk)
 obtain ⟨s, d, mb, j, gm, m, tb, o, fm, cm⟩ := S
 simp only at c2 SN JN ⊢
 clear h
 go_enter Tryz.func69, Tryz.ntmps69
 go_wp2_with (first
  | (go_at_call 128; refine SN.out.mono ?_; rintro e w1 ⟨rfl, rfl⟩)
  | (go_at_call 129; refine JN.out.mono ?_; rintro e w2 ⟨rfl, k2⟩))
 go_ret
 exact ⟨rfl, k2⟩
set_option maxHeartbeats 4000000 in
theorem tablet_any (h : StAt S own w F n t ps q) : Calls Tryz.prog 71 #[.pointer (some ⟨S.s, 0, none⟩), .int .i64 0] w fun e w' => e = .returned (.agg #[.string ⟨#[]⟩, .string ⟨#[]⟩, .pointer (some ⟨S.m, 0, none⟩), .slice none 0 0]) ∧ Kept (fun _ => False) w w' := by
 have H := Lib.hid h
 obtain ⟨rb, hrb⟩ : ∃ q, w.heap.size = q := ⟨_, rfl⟩
 obtain ⟨W0, hW0⟩ : ∃ W, w.alloc (Obj.cells #[.string ⟨#[]⟩, .string ⟨#[]⟩, .pointer none, .slice none 0 0] 143) = W := ⟨_, rfl⟩
 have k0 : Kept (fun _ => False) w W0 := by rw [← hW0]; exact (Kept.refl _ _).alloc _
 have y0 : W0.cell? ⟨rb, 0, none⟩ = some (.string ⟨#[]⟩) := by rw [← hW0, ← hrb]; simp [go_sem]
 have y1 : W0.cell? ⟨rb, 1, none⟩ = some (.string ⟨#[]⟩) := by rw [← hW0, ← hrb]; simp [go_sem]
 have y2 : W0.cell? ⟨rb, 2, none⟩ = some (.pointer none) := by rw [← hW0, ← hrb]; simp [go_sem]
 have y3 : W0.cell? ⟨rb, 3, none⟩ = some (.slice none 0 0) := by rw [← hW0, ← hrb]; simp [go_sem]
 have yf : ∀ j, W0.frozen? ⟨rb, j, none⟩ = false := fun j => by rw [← hW0, ← hrb]; simp [go_sem]
 have yl := World.block_lt_of_cell? _ _ y0
 have H0 := Lib.hid (h.keptF k0)
 have c1 := H0.out.c1
 have c3 := H0.out.c3
 have g0 := H0.out.g0
 have MS := Lib.hid (mstate_any H0.out.man)
 have K0 := Lib.hid k0
 obtain ⟨s, d, mb, j, gm, m, tb, o, fm, cm⟩ := S
 simp only at c1 c3 g0 MS ⊢
 clear h k0
 go_enter Tryz.func71, Tryz.ntmps71
 go_wp2_with (first
  | (go_at_call 61; refine MS.out.mono ?_; rintro e w1 ⟨⟨tb', o', rfl, ht, _⟩, k1⟩; unfold stV; (have K1 := Lib.hid k1); (have TT := Lib.hid ht); (have x1 := k1.cell c1 (fun f => f)); (have x3 := k1.cell c3 (fun f => f)); (have xg := k1.cell g0 (fun f => f)); (have z0 := k1.cell y0 (fun f => f)); (have z1 := k1.cell y1 (fun f => f)); (have z2 := k1.cell y2 (fun f => f)); (have z3 := k1.cell y3 (fun f => f)); (have zf := fun j => k1.frozen (yf j) yl (fun f => f)); obtain ⟨t0, t1⟩ := ht.cells; clear k1 ht y0 y1 y2 y3 yf c1 c3 g0))
 have st := stretch_st (TT.out.kept ((Kept.refl (fun _ => False) w1).alloc (Obj.cells #[Value.slice (some ⟨tb', o', none⟩) 1 1, .int .i64 1, .int .i64 2] 121)) (fun f => f))
 unfold stV at st
 refine st.mono ?_
 clear st
 rintro e w2 ⟨rfl, k2⟩
 have k12 := ((Kept.refl (fun _ => False) w1).alloc _).trans k2 (T := fun _ => False) (fun _ _ f => f) (fun _ _ f => f)
 have K2 := Lib.hid (K1.out.trans k12 (T := fun _ => False) (fun _ _ f => f) (fun _ _ f => f))
 have v0 := k2.cell (show (w1.alloc (Obj.cells #[Value.slice (some ⟨tb', o', none⟩) 1 1, .int .i64 1, .int .i64 2] 121)).cell? ⟨w1.heap.size, 0, none⟩ = some (.slice (some ⟨tb', o', none⟩) 1 1) by simp [go_sem]) (fun f => f)
 have x1' := k12.cell x1 (fun f => f)
 have x3' := k12.cell x3 (fun f => f)
 have xg' := k12.cell xg (fun f => f)
 have z0' := k12.cell z0 (fun f => f)
 have z1' := k12.cell z1 (fun f => f)
 have z2' := k12.cell z2 (fun f => f)
 have z3' := k12.cell z3 (fun f => f)
 have rl0 : rb < w1.heap.size := World.block_lt_of_cell? _ _ z0
 have zf' := fun j => k12.frozen (zf j) rl0 (fun f => f)
 have t0' := k12.cell t0 (fun f => f)
 have t1' := k12.cell t1 (fun f => f)
 have rl := World.block_lt_of_cell? _ _ z0'
 have tl := World.block_lt_of_cell? _ _ t0'
 have sl := World.block_lt_of_cell? _ _ v0
 clear k2 k12 x1 x3 xg z0 z1 z2 z3 zf t0 t1 rl0
 go_wp2_with fail
 refine wp_loop_rounds 1 ?_
 rw [rounds_succ]
 go_wp2_with fail
 have hp : rb < w.heap.size → False := fun h => by omega
 have KK := K0.out.trans K2.out (T := fun _ => False) (fun _ _ f => f) (fun _ _ f => f)
 refine bodyPost_ret_by (v := _) ?_ rfl ⟨rfl, (Kept.setAt hp (Kept.setAt hp (Kept.setAt hp (Kept.setAt hp KK)))).alloc _⟩
 rw [results_cell1 rfl]
 go_simp
end
end Go.Proofs.YthknocapablpaaaGreatDoor

