/- A part of the proof. -/
import Derived.Deep.RegionHeld3
import Derived.Test.YthknocapablpaaaGreatDoorAg17
import Derived.Test.YthknocapablpaaaGreatDoorAg18
import Derived.Test.YthknocapablpaaaGreatDoorAg19
import Derived.Test.YthknocapablpaaaGreatDoorAg20
import Derived.Test.YthknocapablpaaaGreatDoorAg12
import Derived.Test.YthknocapablpaaaGreatDoorAg9

/- The run of 22, whole: it returns true, and nothing that was there has turned. -/
namespace Go.Proofs.YthknocapablpaaaGreatDoor
open Go.Eng Go.RowKit

set_option maxRecDepth 1000000 in
theorem lives22_any {η : Env} {w : World} (h0 : RoHeap Tryz.prog η h22_0 w) : Calls Tryz.prog 10 #[] w fun e w' => e = .returned (.bool true) ∧ Eng.Kept (fun _ => False) w w' := by
 have hk : ∀ n o, h22_0.get n = some o → ∃ t cs, h22_4.get n = some (.ro t cs) := fun n o hn => by
  have hb := ro_names (h0 n o hn).1 hn (by decide +kernel : roSame Tryz.prog.globals.size h22_0 h22_4 = true)
  exact hb
 refine calls_of_wp Tryz.func10 (c := _) rfl (wp_flat (w := w) ?_)
 have hp : flat _ [] = p22 := rfl
 rw [hp]
 have s0 := start_ok h0
 rw [show Tryz.prog.globals.size = 6 by kernel_rfl] at s0
 rw [show p22 = p22.drop 0 by simp]
 refine piece (l := p22) mixed noGo (smAll_ok (η := η)) (by decide) r22_1 s0 noArgs rfl fun s1 a1 x1 d1 t1 w1 => ?_
 refine piece (l := p22) mixed noGo (smAll_ok (η := η)) (by decide) r22_2 w1.rel t1 d1 fun s2 a2 x2 d2 t2 w2 => ?_
 refine piece (l := p22) mixed noGo (smAll_ok (η := η)) (by decide) r22_3 w2.rel t2 d2 fun s3 a3 x3 d3 t3 w3 => ?_
 refine last_piece (l := p22) mixed noGo (smAll_ok (η := η)) (by decide) r22_4 w3.rel t3 d3 (v := .bool true) (by rfl) fun s u x hu W => ?_
 rw [conc_bool] at hu
 subst hu
 exact ⟨rfl, end_ok h0 (by rw [show Tryz.prog.globals.size = 6 by kernel_rfl]; exact (((w1.trans w2).trans w3).trans W)) hk⟩
end Go.Proofs.YthknocapablpaaaGreatDoor

/- SameSpans of two lists that are the same. -/
namespace Go.Proofs.YthknocapablpaaaGreatDoor
open Go.RowKit

theorem s96 : Tryz.prog.stoodInHeld 96 = false := by kernel_rfl
theorem g96 : Tryz.prog.eqGuardType Tryz.prog.depth 96 = false := by kernel_rfl
theorem neq_same (m : Spn) (w : World) : (binOp .neq 96 (aggS m) (aggS m)).run Tryz.prog w = .ok (.bool false) w := by
 have q := s96
 unfold aggS
 simp [go_sem, q]
set_option maxHeartbeats 4000000 in
set_option maxRecDepth 100000 in
theorem same_refl (w : World) (va vb : Value) (A : List Spn) (ha : ReadsS w va A) (hb : ReadsS w vb A) (hl : A.length ≤ 1000000000) :
  Calls Tryz.prog 16 #[va, vb] w fun e w' => e = .returned (.bool true) ∧ Kept (fun _ => False) w w' := by
 obtain ⟨ao, ca, rfl, ra⟩ := ha
 obtain ⟨bo, cb, rfl, rb⟩ := hb
 have RA := Lib.hid ra; have RB := Lib.hid rb
 clear ra rb
 obtain ⟨n, hn⟩ : ∃ n, A.length = n := ⟨_, rfl⟩
 rw [hn]
 rw [hn] at hl
 have d0 : ((n : Int) != (n : Int)) = false := by simp
 have HA := Lib.hid hn
 clear hn
 have q0 := s96
 have q1 := g96
 go_enter Tryz.func16, Tryz.ntmps16
 go_wp2
 go_loopg [5] n (fun ghv s wr => ∃ (i : Nat), i + ghv = n ∧ s = .int .i64 i ∧ Kept (fun _ => False) w wr)
 case atStart => exact ⟨0, by omega, by go_num, Kept.refl _ _⟩
 case round =>
  obtain ⟨i, hg1, rfl, hk⟩ := hrel
  have G1 := Lib.hid hg1; have KK := Lib.hid hk
  clear hg1 hk
  by_cases hin : i < n
  ·have i0 : (i : Int) < (n : Int) := by omega
   have i1 : (0 : Int) ≤ (i : Int) := by omega
   have i2 : (i : Int) ≤ 1000000000 := by omega
   obtain ⟨g1, o1, rfl, hc1⟩ : ∃ g o, ao = some ⟨g, o, none⟩ ∧ ∀ j u, (cellsS A)[j]? = some u → w.cell? ⟨g, o + j, none⟩ = some u := by
    rcases RA.out with h | h
    ·have := HA.out; subst h; simp at this; omega
    ·exact h
   obtain ⟨g2, o2, rfl, hc2⟩ : ∃ g o, bo = some ⟨g, o, none⟩ ∧ ∀ j u, (cellsS A)[j]? = some u → w.cell? ⟨g, o + j, none⟩ = some u := by
    rcases RB.out with h | h
    ·have := HA.out; subst h; simp at this; omega
    ·exact h
   obtain ⟨x, hx⟩ : ∃ x, A[i]? = some x := ⟨_, List.getElem?_eq_getElem (by rw [HA.out]; exact hin)⟩
   have rx := ReadsS.at (fun j u hu => KK.out.cell (hc1 j u hu) (fun f => f)) hx
   have ry := ReadsS.at (fun j u hu => KK.out.cell (hc2 j u hu) (fun f => f)) hx
   have q2 := neq_same x
   unfold aggS at q2
   clear hx hc1 hc2
   go_wp2
   refine wp_region_held_drew (S := (fun w' => (w'.cell? ⟨g1, o1 + i * 8, none⟩ = some (.int .i64 x.tr) ∧ w'.cell? ⟨g1, o1 + i * 8 + 1, none⟩ = some (.int .i64 x.id) ∧ w'.cell? ⟨g1, o1 + i * 8 + 2, none⟩ = some (.int .i64 x.pa) ∧ w'.cell? ⟨g1, o1 + i * 8 + 3, none⟩ = some (.string x.se) ∧ w'.cell? ⟨g1, o1 + i * 8 + 4, none⟩ = some (.string x.ho) ∧ w'.cell? ⟨g1, o1 + i * 8 + 5, none⟩ = some (.int .i64 x.st) ∧ w'.cell? ⟨g1, o1 + i * 8 + 6, none⟩ = some (.int .i64 x.du) ∧ w'.cell? ⟨g1, o1 + i * 8 + 7, none⟩ = some (.string x.no)) ∧ (w'.cell? ⟨g2, o2 + i * 8, none⟩ = some (.int .i64 x.tr) ∧ w'.cell? ⟨g2, o2 + i * 8 + 1, none⟩ = some (.int .i64 x.id) ∧ w'.cell? ⟨g2, o2 + i * 8 + 2, none⟩ = some (.int .i64 x.pa) ∧ w'.cell? ⟨g2, o2 + i * 8 + 3, none⟩ = some (.string x.se) ∧ w'.cell? ⟨g2, o2 + i * 8 + 4, none⟩ = some (.string x.ho) ∧ w'.cell? ⟨g2, o2 + i * 8 + 5, none⟩ = some (.int .i64 x.st) ∧ w'.cell? ⟨g2, o2 + i * 8 + 6, none⟩ = some (.int .i64 x.du) ∧ w'.cell? ⟨g2, o2 + i * 8 + 7, none⟩ = some (.string x.no)))) (by kernel_rfl) ?_ (fun hHeld => ?_)
   ·exact ⟨rx, ry⟩
   refine tW 0 opAt0 hHeld ?_
   (try simp only [Act.put]); try simp only [z2, List.set]
   refine tW 1 opAt1 hHeld ?_
   (try simp only [Act.put]); try simp only [z2, List.set]
   refine tW 2 opAt2 hHeld ?_
   (try simp only [Act.put]); try simp only [z2, List.set]
   refine tH (v := ?_) 3 opAt3 ?_ hHeld ?_
   case refine_2 => (intro w hSw; (try dsimp only at hSw); obtain ⟨c0, c1, c2, c3, c4, c5, c6, c7⟩ := hSw.1; clear hSw; go_simp; all_goals (with_reducible rfl))
   (try simp only [Act.put]); try simp only [z2, List.set]
   refine tW 4 opAt4 hHeld ?_
   (try simp only [Act.put]); try simp only [z2, List.set]
   refine tW 5 opAt5 hHeld ?_
   (try simp only [Act.put]); try simp only [z2, List.set]
   refine tW 6 opAt6 hHeld ?_
   (try simp only [Act.put]); try simp only [z2, List.set]
   refine tH (v := ?_) 7 opAt7 ?_ hHeld ?_
   case refine_2 => (intro w hSw; (try dsimp only at hSw); obtain ⟨c0, c1, c2, c3, c4, c5, c6, c7⟩ := hSw.2; clear hSw; go_simp; all_goals (with_reducible rfl))
   (try simp only [Act.put]); try simp only [z2, List.set]
   refine tW 8 opAt8 hHeld ?_
   (try simp only [Act.put]); try simp only [z2, List.set]
   refine wpAnyH_done (by kernel_rfl) ?_ _
   go_wp2
   go_roundg (n - (i + 1))
   case measure => have := G1.out; omega
   case rel => exact ⟨i + 1, by omega, by go_num, KK.out.drew⟩
  ·have i0 : ¬ (i : Int) < (n : Int) := by omega
   go_wp2
   go_ret
   exact ⟨rfl, KK.out⟩
end Go.Proofs.YthknocapablpaaaGreatDoor

/- Whether a list of spans is beyond. -/
namespace Go.Proofs.YthknocapablpaaaGreatDoor
set_option maxRecDepth 100000
open Go.RowKit

def beyS (m : Spn) : Bool := decide ((100 : Int) < (m.se.size : Int)) || decide ((100 : Int) < (m.ho.size : Int)) || decide ((100 : Int) < (m.no.size : Int))
def bey9 (L : List Spn) (mx : Int) : Bool := decide (mx < (L.length : Int)) || L.any beyS
theorem any_at {L : List Spn} {i : Nat} {m : Spn} (h : L[i]? = some m) (hb : beyS m = true) : L.any beyS = true := List.any_eq_true.2 ⟨m, List.mem_of_getElem? h, hb⟩
theorem any_not {L : List Spn} (h : ∀ (j : Nat) (m : Spn), L[j]? = some m → beyS m = false) : L.any beyS = false := by
 rw [List.any_eq_false]
 intro m hm
 obtain ⟨j, hj⟩ := List.getElem?_of_mem hm
 simp [h j m hj]
set_option maxHeartbeats 4000000 in
set_option maxRecDepth 100000 in
theorem beyond9 (mx : Int) {w : World} {v : Value} {L : List Spn} (h : ReadsS w v L) (hl : L.length ≤ 9223372036854775807) (hfit : ∀ y ∈ L, y.se.size ≤ 9223372036854775807 ∧ y.ho.size ≤ 9223372036854775807 ∧ y.no.size ≤ 9223372036854775807) :
  Calls Tryz.prog 48 #[v, .int .i64 mx] w fun e w' => e = .returned (.bool (bey9 L mx)) ∧ w = w' := by
 obtain ⟨ao, cap, rfl, h⟩ := h
 have HR := Lib.hid h
 clear h
 by_cases h20 : (L.length : Int) ≤ mx
 ·have e1 : ¬ mx < (L.length : Int) := by omega
  have E9 : bey9 L mx = L.any beyS := by unfold bey9; simp [e1]
  rw [E9]
  obtain ⟨A, hA⟩ : ∃ A, L.any beyS = A := ⟨_, rfl⟩
  rw [hA]
  have HA := Lib.hid hA
  clear hA E9
  go_enter Tryz.func48, Tryz.ntmps48
  go_wp2
  go_loopg [5] L.length (fun gh t wr => ∃ k : Nat, k + gh = L.length ∧ t = .int .i64 k ∧ wr = w ∧ ∀ (j : Nat) (m : Spn), j < k → L[j]? = some m → beyS m = false)
  case atStart => exact ⟨0, by omega, rfl, rfl, fun j m hj => absurd hj (Nat.not_lt_zero j)⟩
  case round =>
   obtain ⟨k, hk, rfl, rfl, hno⟩ := hrel
   have NO := Lib.hid hno
   have hk1 : k ≤ L.length := by omega
   have JK := Lib.hid hk
   clear hk hno
   by_cases hlt : k < L.length
   ·rcases HR.out with h0 | ⟨g, o, rfl, hc⟩
    ·rw [h0] at hlt; simp at hlt
    obtain ⟨m, hm⟩ : ∃ m, L[k]? = some m := ⟨_, List.getElem?_eq_getElem hlt⟩
    obtain ⟨_, _, _, c3, c4, _, _, c7⟩ := ReadsS.at hc hm
    have f := hfit m (List.mem_of_getElem? hm)
    have HM := Lib.hid hm
    have i1 : (0 : Int) ≤ (k : Int) := by omega
    have i2 : (k : Int) < (L.length : Int) := by omega
    have f1 := f.1; have f2 := f.2.1; have f3 := f.2.2
    clear hc hm f
    by_cases g1 : (100 : Int) < (m.se.size : Int)
    ·go_wp2
     go_ret
     exact ⟨by rw [← HA.out, any_at HM.out (by unfold beyS; simp [g1])]; rfl, rfl⟩
    ·by_cases g2 : (100 : Int) < (m.ho.size : Int)
     ·go_wp2
      go_ret
      exact ⟨by rw [← HA.out, any_at HM.out (by unfold beyS; simp [g2])]; rfl, rfl⟩
     ·by_cases g3 : (100 : Int) < (m.no.size : Int)
      ·go_wp2
       go_ret
       exact ⟨by rw [← HA.out, any_at HM.out (by unfold beyS; simp [g3])]; rfl, rfl⟩
      ·go_wp2
       go_roundg (L.length - k - 1)
       case measure => have := JK.out; omega
       case rel =>
        refine ⟨k + 1, by omega, by go_num, rfl, fun j x hj hx => ?_⟩
        by_cases e : j = k
        ·subst e
         rw [HM.out] at hx
         cases hx
         unfold beyS
         simp [g1, g2, g3]
        ·exact NO.out j x (by omega) hx
   ·have e3 : ¬ (k : Int) < (L.length : Int) := by omega
    go_wp2
    go_ret
    refine ⟨?_, rfl⟩
    rw [← HA.out, any_not (fun j m hm => NO.out j m (by have := (List.getElem?_eq_some_iff.1 hm).1; omega) hm)]
    rfl
 ·have e1 : mx < (L.length : Int) := by omega
  have E9 : bey9 L mx = true := by unfold bey9; simp [e1]
  rw [E9]
  go_enter Tryz.func48, Tryz.ntmps48
  go_wp2
  go_ret
  exact ⟨rfl, rfl⟩

end Go.Proofs.YthknocapablpaaaGreatDoor

/- Acts in memory; Beyond of acts. -/
namespace Go.Proofs.YthknocapablpaaaGreatDoor
open Go.RowKit

structure ActP where
 host : Int
 first : Int
 spans : List Spn
 ticks : Int
def Fits (y : Spn) : Prop := y.se.size ≤ 9223372036854775807 ∧ y.ho.size ≤ 9223372036854775807 ∧ y.no.size ≤ 9223372036854775807
/-- One act lies at a place: its spans' slice, and its ticks. -/
def ActAt (w : World) (g o : Nat) (a : ActP) : Prop := ∃ sv, w.cell? ⟨g, o, none⟩ = some (.int .i64 a.host) ∧ w.cell? ⟨g, o + 1, none⟩ = some (.int .i64 a.first) ∧ w.cell? ⟨g, o + 2, none⟩ = some sv ∧ ReadsS w sv a.spans ∧ w.cell? ⟨g, o + 3, none⟩ = some (.int .u8 a.ticks)
/-- A list of acts, as it lies. -/
def ReadsA (w : World) (v : Value) (A : List ActP) : Prop :=
 ∃ ao cap, v = .slice ao A.length cap ∧ (A = [] ∨ ∃ g o, ao = some ⟨g, o, none⟩ ∧ ∀ i a, A[i]? = some a → ActAt w g (o + i * 4) a)
/-- Acts whose numbers may be. -/
structure FitsA (A : List ActP) : Prop where
 len : A.length ≤ 9223372036854775807
 ticks : ∀ a ∈ A, 0 ≤ a.ticks ∧ a.ticks ≤ 255
 many : ∀ a ∈ A, a.spans.length ≤ 9223372036854775807
 fit : ∀ a ∈ A, ∀ m ∈ a.spans, Fits m
theorem ActAt.keptF {w w' : World} {g o : Nat} {a : ActP} (h : ActAt w g o a) (hK : Kept (fun _ => False) w w') : ActAt w' g o a := by
 obtain ⟨sv, a1, a2, h1, h2, h3⟩ := h
 exact ⟨sv, hK.cell a1 (fun f => f), hK.cell a2 (fun f => f), hK.cell h1 (fun f => f), h2.keptF hK, hK.cell h3 (fun f => f)⟩
theorem ReadsA.keptF {w w' : World} {v : Value} {A : List ActP} (h : ReadsA w v A) (hK : Kept (fun _ => False) w w') : ReadsA w' v A := by
 obtain ⟨ao, cap, rfl, h⟩ := h
 refine ⟨ao, cap, rfl, ?_⟩
 rcases h with h | ⟨g, o, rfl, h⟩
 ·exact .inl h
 ·exact .inr ⟨g, o, rfl, fun i a ha => (h i a ha).keptF hK⟩
theorem beyond_len {w : World} {v : Value} {L : List Spn} (h : ReadsS w v L) (hl : L.length ≤ 9223372036854775807) (hfit : ∀ y ∈ L, Fits y) :
  Calls Tryz.prog 48 #[v, .int .i64 20] w fun e w' => (e = .returned (.bool true) ∨ (e = .returned (.bool false) ∧ L.length ≤ 20)) ∧ w = w' := by
 refine (beyond9 20 h hl hfit).mono fun e w' ⟨he, hw⟩ => ⟨?_, hw⟩
 cases hb : bey9 L 20 with
 | true => rw [hb] at he; exact .inl he
 | false =>
  rw [hb] at he
  refine .inr ⟨he, ?_⟩
  unfold bey9 at hb
  simp at hb
  omega
set_option maxHeartbeats 4000000 in
set_option maxRecDepth 100000 in
theorem beyondA_all (k : Nat) (hk : k ≤ 1000) {w : World} {v : Value} {A : List ActP} (h : ReadsA w v A) (hf : FitsA A) :
  Calls Tryz.prog 9 #[v, .int .i64 (k : Int)] w fun e w' => (e = .returned (.bool true) ∨ (e = .returned (.bool false) ∧ (A.length ≤ k ∧ ∀ a ∈ A, a.spans.length ≤ 20))) ∧ w = w' := by
 obtain ⟨ao, cap, rfl, h⟩ := h
 have HR := Lib.hid h
 have HF := Lib.hid hf
 have hl := hf.len
 clear h hf
 by_cases hlen : A.length ≤ k
 ·have e1 : ¬ (k : Int) < (A.length : Int) := by omega
  go_enter Tryz.func9, Tryz.ntmps9
  go_wp2
  go_loopg [5] A.length (fun gh t wr => ∃ i : Nat, i + gh = A.length ∧ t = .int .i64 i ∧ wr = w ∧ ∀ j a, j < i → A[j]? = some a → a.spans.length ≤ 20)
  case atStart => exact ⟨0, by omega, rfl, rfl, fun j a hj => absurd hj (Nat.not_lt_zero j)⟩
  case round =>
   obtain ⟨i, hi, rfl, rfl, hok⟩ := hrel
   have JI := Lib.hid hi; have OK := Lib.hid hok
   clear hi hok
   by_cases hlt : i < A.length
   ·rcases HR.out with h0 | ⟨g, o, rfl, hc⟩
    ·rw [h0] at hlt; simp at hlt
    obtain ⟨a, ha⟩ : ∃ a, A[i]? = some a := ⟨_, List.getElem?_eq_getElem hlt⟩
    have hmem := List.mem_of_getElem? ha
    obtain ⟨sv, _, _, c2, rs, c3⟩ := hc i a ha
    have B := Lib.hid (beyond_len rs (HF.out.many a hmem) (HF.out.fit a hmem))
    have i1 : (0 : Int) ≤ (i : Int) := by omega
    have i2 : (i : Int) < (A.length : Int) := by omega
    have HA := Lib.hid ha
    clear hc ha hmem rs
    go_wp2_with fail
    refine B.out.mono ?_
    rintro e w2 ⟨rfl | ⟨rfl, hr⟩, rfl⟩
    ·go_wp2
     go_ret
     exact ⟨.inl rfl, rfl⟩
    ·have R20 := Lib.hid hr
     clear hr
     go_wp2
     go_roundg (A.length - i - 1)
     case measure => have := JI.out; omega
     case rel =>
      refine ⟨i + 1, by omega, by go_num, rfl, fun j x hj hx => ?_⟩
      rcases Nat.lt_or_ge j i with h | h
      ·exact OK.out j x h hx
      ·obtain rfl : j = i := by omega
       have := HA.out
       rw [hx] at this
       cases this
       exact R20.out
   ·have e3 : ¬ (i : Int) < (A.length : Int) := by omega
    go_wp2
    go_ret
    have F : ∀ a ∈ A, a.spans.length ≤ 20 := fun a ha => by
     obtain ⟨j, hj⟩ := List.mem_iff_getElem?.1 ha
     exact OK.out j a (by have := (List.getElem?_eq_some_iff.1 hj).1; omega) hj
    exact ⟨.inr ⟨rfl, F⟩, rfl⟩
 ·have e1 : (k : Int) < (A.length : Int) := by omega
  go_enter Tryz.func9, Tryz.ntmps9
  go_wp2
  go_ret
  exact ⟨.inl rfl, rfl⟩
end Go.Proofs.YthknocapablpaaaGreatDoor

