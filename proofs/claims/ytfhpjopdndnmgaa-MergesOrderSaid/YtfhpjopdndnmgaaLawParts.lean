/- MergesParts, walked whole: at every input it returns true. -/
import Derived.Test.YtfhpjopdndnmgaaLawAll
import Derived.Test.YtfhpjopdndnmgaaLaws
namespace Go.Proofs.Ytfhpjopdndnmgaa
open Go.RowKit

theorem slice_to (ao : Option Addr) (n cap k : Nat) (h0 : ao = none → n = 0 ∧ cap = 0) (hk : k ≤ n) (hn : n ≤ cap) : ∀ W, (Instr.slice 22 (.slice ao n cap) none (some (.int .i64 k)) none).run Try.prog W = .ok (.slice ao k cap) W := by
  intro W
  have i1 : (0 : Int) ≤ (k : Int) := by omega
  have i2 : (k : Int) ≤ (n : Int) := by omega
  have i3 : (k : Int) ≤ (cap : Int) := by omega
  cases ao with
  | none =>
    obtain ⟨rfl, rfl⟩ := h0 rfl
    have : k = 0 := by omega
    subst this
    simp [go_sem]
  | some a => simp [go_sem, i1, i3]
theorem slice_from (ao : Option Addr) (n cap k : Nat) (h0 : ao = none → n = 0 ∧ cap = 0) (hk : k ≤ n) (hn : n ≤ cap) : ∃ X, (k < n → ∀ g o, ao = some ⟨g, o, none⟩ → X = some ⟨g, o + k, none⟩) ∧
    ∀ W, (Instr.slice 22 (.slice ao n cap) (some (.int .i64 k)) none none).run Try.prog W = .ok (.slice X (n - k) (cap - k)) W := by
  have i1 : (0 : Int) ≤ (k : Int) := by omega
  have i2 : (k : Int) ≤ (n : Int) := by omega
  have i3 : (k : Int) ≤ (cap : Int) := by omega
  have i4 : (n : Int) ≤ (cap : Int) := by omega
  cases ao with
  | none =>
    obtain ⟨rfl, rfl⟩ := h0 rfl
    have : k = 0 := by omega
    subst this
    exact ⟨none, fun h => by omega, fun W => by simp [go_sem]⟩
  | some a =>
    by_cases hc : cap = k
    · subst hc
      obtain rfl : n = cap := by omega
      exact ⟨some a, fun h => by omega, fun W => by simp [go_sem]⟩
    · exact ⟨some (a.add k), fun _ g o e => by cases e; rw [add_mid], fun W => by simp [go_sem, hc, i1, i2]⟩

theorem reads_take {W : World} {ao : Option Addr} {cap : Nat} {L : List (List Cel)} (h : ReadsR W (.slice ao L.length cap) L) {k : Nat} (hk : k ≤ L.length) : ReadsR W (.slice ao k cap) (L.take k) := by
  obtain ⟨a, c, e, h⟩ := h
  simp only [Value.slice.injEq] at e
  obtain ⟨rfl, _, rfl⟩ := e
  refine ⟨_, _, by rw [List.length_take, Nat.min_eq_left hk], ?_⟩
  rcases h with rfl | ⟨g, o, rfl, hc⟩
  · left; simp
  · right
    refine ⟨g, o, rfl, fun i R hi => ?_⟩
    rw [List.getElem?_take] at hi
    split at hi
    · exact hc i R hi
    · cases hi
theorem reads_drop {W : World} {ao X : Option Addr} {cap c2 : Nat} {L : List (List Cel)} (h : ReadsR W (.slice ao L.length cap) L) {k : Nat} (hX : k < L.length → ∀ g o, ao = some ⟨g, o, none⟩ → X = some ⟨g, o + k, none⟩) : ReadsR W (.slice X (L.length - k) c2) (L.drop k) := by
  obtain ⟨a, c, e, h⟩ := h
  simp only [Value.slice.injEq] at e
  obtain ⟨rfl, _, rfl⟩ := e
  refine ⟨_, _, by rw [List.length_drop], ?_⟩
  by_cases hk : k < L.length
  · rcases h with rfl | ⟨g, o, rfl, hc⟩
    · simp at hk
    · right
      refine ⟨g, o + k, hX hk g o rfl, fun i R hi => ?_⟩
      rw [List.getElem?_drop] at hi
      have := hc (k + i) R hi
      rwa [show o + k + i = o + (k + i) by omega]
  · left; exact List.drop_eq_nil_of_le (by omega)

theorem bsorted_any (w : World) (v : Value) (A : List Cel) (ha : ReadsC w v A) (hl : A.length ≤ 1000) :
    Calls Try.prog 21 #[v] w fun e w' => e = .returned (.bool (sortedB A)) ∧ Kept (fun _ => False) w w' := by
  have S := Lib.hid (sorted_any w v A ha hl)
  clear ha
  go_enter Try.func21, Try.ntmps21
  go_wp2_with (go_at_call 30; refine S.out.mono ?_; rintro e w4 ⟨rfl, k4⟩)
  go_ret
  exact ⟨rfl, k4⟩

/-! ### The plain law -/
theorem ne_pairs {l X Y : List Cel} (h : Strict l) (hp : (X ++ Y).Perm l) : (X ++ Y).Pairwise (fun a b => cmpC a b ≠ 0) :=
  (hp.pairwise_iff (fun {x y} (h : cmpC x y ≠ 0) e => h ((cmpC_is.zero x y).2 e))).2 (List.Pairwise.imp (fun {a b} (h : cmpC a b < 0) => by omega) h)
theorem strict_of {X : List Cel} (h : Weak X) (h2 : X.Pairwise (fun a b => cmpC a b ≠ 0)) : Strict X := by
  unfold Strict
  rw [List.pairwise_iff_getElem]
  intro i j hi hj hij
  have h3 := (List.pairwise_iff_getElem.1 h) i j hi hj hij
  have h4 := (List.pairwise_iff_getElem.1 h2) i j hi hj hij
  omega
theorem all_two {a b : List Cel} (ha : sortedB a = true) (hb : sortedB b = true) : [a, b].all sortedB = true := by simp [ha, hb]
theorem parts_facts {L : List (List Cel)} (ha : L.all sortedB = true) (hs : sortedB (mergeL L) = true) (k : Nat) :
    (L.take k).all sortedB = true ∧ (L.drop k).all sortedB = true ∧ [mergeL (L.take k), mergeL (L.drop k)].all sortedB = true ∧ [firstF (mergeL (L.take k)), firstF (mergeL (L.drop k))].all sortedB = true ∧
    mergeL [mergeL (L.take k), mergeL (L.drop k)] = mergeL L ∧ firstF (mergeL [firstF (mergeL (L.take k)), firstF (mergeL (L.drop k))]) = firstF (mergeL L) := by
  have hA : (L.take k).all sortedB = true := List.all_eq_true.2 fun R hR => List.all_eq_true.1 ha R (List.mem_of_mem_take hR)
  have hB : (L.drop k).all sortedB = true := List.all_eq_true.2 fun R hR => List.all_eq_true.1 ha R (List.mem_of_mem_drop hR)
  have hl := ((sorted_iff _).1 hs).2
  obtain ⟨a, haa⟩ : ∃ a, mergeL (L.take k) = a := ⟨_, rfl⟩
  obtain ⟨b, hbb⟩ : ∃ b, mergeL (L.drop k) = b := ⟨_, rfl⟩
  have wa := merge_weak hA
  have wb := merge_weak hB
  have ma := merge_may hA
  have mb := merge_may hB
  have hperm : (mergeL (L.take k) ++ mergeL (L.drop k)).Perm (mergeL L) := by
    refine ((merge_perm _).append (merge_perm _)).trans ?_
    rw [← List.flatten_append, List.take_append_drop]
    exact (merge_perm L).symm
  rw [haa] at wa ma hperm ⊢
  rw [hbb] at wb mb hperm ⊢
  have hne := ne_pairs hl hperm
  have hne2 := List.pairwise_append.1 hne
  have sa := strict_of wa hne2.1
  have sb := strict_of wb hne2.2.1
  have sab : sortedB a = true := (sorted_iff a).2 ⟨ma, sa⟩
  have sbb : sortedB b = true := (sorted_iff b).2 ⟨mb, sb⟩
  obtain ⟨fa1, fa2, _, _⟩ := first_facts _ a rfl wa
  obtain ⟨fb1, fb2, _, _⟩ := first_facts _ b rfl wb
  have sc : sortedB (firstF a) = true := (sorted_iff _).2 ⟨fun c hc => ma c (fa1.subset hc), first_strict wa⟩
  have sd : sortedB (firstF b) = true := (sorted_iff _).2 ⟨fun c hc => mb c (fb1.subset hc), first_strict wb⟩
  refine ⟨hA, hB, all_two sab sbb, all_two sc sd, ?_, ?_⟩
  · refine (weak_unique _ _ hl (merge_weak (all_two sab sbb)) ?_).symm
    refine hperm.symm.trans ?_
    have := (merge_perm [a, b]).symm
    simpa using this
  · obtain ⟨X, hX⟩ : ∃ X, mergeL [firstF a, firstF b] = X := ⟨_, rfl⟩
    have wX := merge_weak (all_two sc sd)
    have pX := merge_perm [firstF a, firstF b]
    rw [hX] at wX pX ⊢
    have pX2 : X.Perm (firstF a ++ firstF b) := by simpa using pX
    have hneX : (firstF a ++ firstF b).Pairwise (fun a b => cmpC a b ≠ 0) := List.Pairwise.sublist (fa1.append fb1) hne
    have hneX2 : X.Pairwise (fun a b => cmpC a b ≠ 0) := (pX2.pairwise_iff (fun {x y} (h : cmpC x y ≠ 0) e => h ((cmpC_is.zero x y).2 e))).2 hneX
    have sX := strict_of wX hneX2
    have memX : ∀ x, x ∈ X ↔ x ∈ firstF a ∨ x ∈ firstF b := fun x => by rw [pX2.mem_iff, List.mem_append]
    have memL : ∀ x, x ∈ mergeL L ↔ x ∈ a ∨ x ∈ b := fun x => by rw [← hperm.mem_iff, List.mem_append]
    refine strict_unique _ _ (first_strict wX) (first_strict hl.weak) (fun x => ?_)
    rw [first_mem sX, first_mem hl]
    constructor
    · rintro ⟨h1, h2⟩
      have hxl : x ∈ mergeL L := by
        rcases (memX x).1 h1 with h | h
        · exact (memL x).2 (.inl (fa1.subset h))
        · exact (memL x).2 (.inr (fb1.subset h))
      refine ⟨hxl, fun y hy hk => ?_⟩
      rcases (memL y).1 hy with h | h
      · obtain ⟨z, hz, z1, z2⟩ := fa2 y h
        exact cmpC_is.tr _ _ _ (h2 z ((memX z).2 (.inl hz)) (by rw [z1, hk])) z2
      · obtain ⟨z, hz, z1, z2⟩ := fb2 y h
        exact cmpC_is.tr _ _ _ (h2 z ((memX z).2 (.inr hz)) (by rw [z1, hk])) z2
    · rintro ⟨h1, h2⟩
      refine ⟨?_, fun y hy hk => ?_⟩
      · rcases (memL x).1 h1 with h | h
        · exact (memX x).2 (.inl ((first_mem sa x).2 ⟨h, fun y hy hk => h2 y ((memL y).2 (.inl hy)) hk⟩))
        · exact (memX x).2 (.inr ((first_mem sb x).2 ⟨h, fun y hy hk => h2 y ((memL y).2 (.inr hy)) hk⟩))
      · rcases (memX y).1 hy with h | h
        · exact h2 y ((memL y).2 (.inl (fa1.subset h))) hk
        · exact h2 y ((memL y).2 (.inr (fb1.subset h))) hk
/-! ### The walk -/
theorem reads_two {W : World} {n : Nat} {u1 u2 : Value} {a b : List Cel} (hb : W.heap[n]? = some (.cells #[u1, u2] 25 (0, 0))) (h1 : ReadsC W u1 a) (h2 : ReadsC W u2 b) : ReadsR W (.slice (some ⟨n, 0, none⟩) 2 2) [a, b] := by
  refine ⟨_, 2, rfl, .inr ⟨n, 0, rfl, fun k R hk => ?_⟩⟩
  match k, hk with
  | 0, hk => cases hk; exact ⟨u1, by rw [cell_of_row W n (0 + 0) _ _ _ hb]; rfl, h1⟩
  | 1, hk => cases hk; exact ⟨u2, by rw [cell_of_row W n (0 + 1) _ _ _ hb]; rfl, h2⟩
theorem own_shape {W : World} {base e size n : Nat} {v : Value} {xs : List Value} (h : W.ownsRow base e size v n xs) : ∃ a m c, v = .slice a m c := by
  rcases row_form h with ⟨rfl, hn⟩ | ⟨g, c, rfl, _⟩
  · exact ⟨none, 0, 0, rfl⟩
  · exact ⟨_, n, c, rfl⟩
theorem u8_bounds {k : Int} (h : (Lit.int .u8 k).wf = true) : 0 ≤ k ∧ k < 256 := by
  simp [Lit.wf, IntKind.min, IntKind.max, IntKind.signed, IntKind.bits] at h; omega
theorem total_append (A B : List (List Cel)) : total (A ++ B) = total A + total B := by simp [total]

set_option maxRecDepth 100000 in
set_option maxHeartbeats 8000000 in
theorem mergesParts_any (w : World) (ao : Option Addr) (cap : Nat) (L : List (List Cel)) (c : Int) (h : ReadsR w (.slice ao L.length cap) L) (h00 : ao = none → L.length = 0 ∧ cap = 0) (hcap : L.length ≤ cap) (c0 : 0 ≤ c) (c1 : c < 256) (hlen : L.length ≤ 9223372036854775807) (hfit : ∀ R ∈ L, R.length ≤ 9223372036854775807 ∧ ∀ c ∈ R, c.k.size ≤ 9223372036854775807 ∧ c.v.size ≤ 9223372036854775807) :
    Calls Try.prog 8 #[.slice ao L.length cap, .int .u8 c] w fun e w' => e = .returned (.bool true) ∧ Below w.heap.size w w' := by
  have GA := Lib.hid (great_any w _ L h hlen hfit)
  have H := Lib.hid h
  clear h hlen hfit
  have hor : greatB L = true ∨ greatB L = false := by cases greatB L <;> simp
  rcases hor with hg | hg
  · have G := Lib.hid hg; clear hg
    go_enter Try.func8, Try.ntmps8
    go_wp2_with (go_at_call 9; refine GA.out.mono ?_; rw [G.out]; rintro e w1 ⟨rfl, rfl⟩)
    go_ret
    exact ⟨rfl, Below.refl _ _⟩
  · have hf := greatB_false.1 hg
    have hL : L.length ≤ 20 := hf.2.1
    have hR : ∀ R ∈ L, R.length ≤ 1000 := fun R hr => by have := (hf.1 R hr).1; omega
    have ht : total L ≤ 300 := hf.2.2
    have G := Lib.hid hg; have LR := Lib.hid hR; have LT := Lib.hid (show total L ≤ 1000 by omega); have LL := Lib.hid (show L.length ≤ 50 by omega)
    have TL := Lib.hid (show L.length ≤ 50 ∧ (∀ R ∈ L, R.length ≤ 1000) ∧ total L ≤ 1000 from ⟨by omega, hR, by omega⟩)
    obtain ⟨k, hk⟩ : ∃ k, c.toNat % (L.length + 1) = k := ⟨_, rfl⟩
    have hkl : k ≤ L.length := by have := Nat.mod_lt c.toNat (show 0 < L.length + 1 by omega); omega
    have htt : total (L.take k) + total (L.drop k) = total L := by rw [← total_append, List.take_append_drop]
    have TK := Lib.hid (show (L.take k).length ≤ 50 ∧ (∀ R ∈ L.take k, R.length ≤ 1000) ∧ total (L.take k) ≤ 1000 from ⟨by rw [List.length_take]; omega, fun R hr => hR R (List.mem_of_mem_take hr), by omega⟩)
    have TD := Lib.hid (show (L.drop k).length ≤ 50 ∧ (∀ R ∈ L.drop k, R.length ≤ 1000) ∧ total (L.drop k) ≤ 1000 from ⟨by rw [List.length_drop]; omega, fun R hr => hR R (List.mem_of_mem_drop hr), by omega⟩)
    have m1 := merge_le (L.take k)
    have m2 := merge_le (L.drop k)
    have n1 := firstF_length (mergeL (L.take k))
    have n2 := firstF_length (mergeL (L.drop k))
    have T2 := Lib.hid (show (∀ R ∈ [mergeL (L.take k), mergeL (L.drop k)], R.length ≤ 1000) ∧ total [mergeL (L.take k), mergeL (L.drop k)] ≤ 1000 from ⟨fun R hr => by simp at hr; rcases hr with rfl | rfl <;> omega, by simp [total] at *; omega⟩)
    have T3 := Lib.hid (show (∀ R ∈ [firstF (mergeL (L.take k)), firstF (mergeL (L.drop k))], R.length ≤ 1000) ∧ total [firstF (mergeL (L.take k)), firstF (mergeL (L.drop k))] ≤ 1000 from ⟨fun R hr => by simp at hr; rcases hr with rfl | rfl <;> omega, by simp [total] at *; omega⟩)
    have ek : c.tmod ((L.length : Int) + 1) = (k : Int) := by
      rw [Int.tmod_eq_emod_of_nonneg c0, ← hk]
      have : c = ((c.toNat : Nat) : Int) := by omega
      rw [this]; simp
    have hto := slice_to ao L.length cap k h00 hkl hcap
    obtain ⟨X, hX, hfr⟩ := slice_from ao L.length cap k h00 hkl hcap
    have KL := Lib.hid hkl; have HX := Lib.hid hX
    clear hg hf hR ht htt m1 m2 n1 n2 hk hkl hX h00
    go_enter Try.func8, Try.ntmps8
    go_wp2_with fail
    refine GA.out.mono ?_
    rw [G.out]; rintro e w0 ⟨rfl, rfl⟩
    go_wp2_with fail
    refine (all_any w _ L H.out LL.out LR.out LT.out).mono ?_
    rintro e w1 ⟨k1, ⟨h1, rfl⟩ | ⟨h1, u1, rfl, o1⟩⟩
    · have K1 := Lib.hid k1; clear k1 h1
      go_wp2_with fail
      refine (does_any w1).mono ?_
      rintro e w2 ⟨rfl, k2⟩
      have K2 := Lib.hid (keptFF K1.out k2); clear k2
      go_wp2
      go_ret
      exact ⟨rfl, K2.out.below (fun _ _ f => f)⟩
    have K1 := Lib.hid k1; have ALL := Lib.hid h1; have R0 := Lib.hid (ReadsC.of_row o1); have H1 := Lib.hid (H.out.keptF k1)
    clear k1 h1 o1
    have hor : sortedB (mergeL L) = true ∨ sortedB (mergeL L) = false := by cases sortedB (mergeL L) <;> simp
    go_wp2_with fail
    refine (bsorted_any w1 _ _ R0.out (Nat.le_trans (merge_le L) LT.out)).mono ?_
    rcases hor with hs | hs
    · rw [hs]
      rintro e w2 ⟨rfl, k2⟩
      have K2 := Lib.hid (keptFF K1.out k2); have R1 := Lib.hid (R0.out.keptF k2); have H2 := Lib.hid (H1.out.keptF k2)
      have F := Lib.hid (parts_facts ALL.out hs k)
      clear k2 hs
      go_wp2_with fail
      refine (all_any w2 (.slice ao k cap) (L.take k) (reads_take H2.out KL.out) TK.out.1 TK.out.2.1 TK.out.2.2).mono ?_
      rintro e w3 ⟨k3', ⟨h3, _⟩ | ⟨_, u3, rfl, o3⟩⟩
      · rw [F.out.1] at h3; cases h3
      obtain ⟨a3, m3, c3, rfl⟩ := own_shape o3
      have k3 := k3'
      have K3 := Lib.hid (keptFF K2.out k3)
      have H2_3 := Lib.hid (H2.out.keptF k3)
      have R1_3 := Lib.hid (R1.out.keptF k3)
      have Q3 := Lib.hid (ReadsC.of_row o3)
      clear k3 k3' o3
      go_wp2_with fail
      refine (all_any w3 (.slice X (L.length - k) (cap - k)) (L.drop k) (reads_drop H2_3.out HX.out) TD.out.1 TD.out.2.1 TD.out.2.2).mono ?_
      rintro e w4 ⟨k4', ⟨h4, _⟩ | ⟨_, u4, rfl, o4⟩⟩
      · rw [F.out.2.1] at h4; cases h4
      obtain ⟨a4, m4, c4, rfl⟩ := own_shape o4
      have k4 := k4'
      have K4 := Lib.hid (keptFF K3.out k4)
      have H2_4 := Lib.hid (H2_3.out.keptF k4)
      have R1_4 := Lib.hid (R1_3.out.keptF k4)
      have Q3_4 := Lib.hid (Q3.out.keptF k4)
      have Q4 := Lib.hid (ReadsC.of_row o4)
      clear k4 k4' o4
      go_wp2_with fail
      refine (all_any _ _ [mergeL (L.take k), mergeL (L.drop k)] (reads_two (heap_alloc_new w4 _) (Q3_4.out.keptF ((Kept.refl (fun _ => False) w4).alloc _)) (Q4.out.keptF ((Kept.refl (fun _ => False) w4).alloc _))) (by simp) T2.out.1 T2.out.2).mono ?_
      rintro e w5 ⟨k5', ⟨h5, _⟩ | ⟨_, u5, rfl, o5⟩⟩
      · rw [F.out.2.2.1] at h5; cases h5
      obtain ⟨a5, m5, c5, rfl⟩ := own_shape o5
      have k5 : Kept (fun _ => False) w4 w5 := keptFF ((Kept.refl (fun _ => False) w4).alloc _) k5'
      have K5 := Lib.hid (keptFF K4.out k5)
      have H2_5 := Lib.hid (H2_4.out.keptF k5)
      have R1_5 := Lib.hid (R1_4.out.keptF k5)
      have Q3_5 := Lib.hid (Q3_4.out.keptF k5)
      have Q4_5 := Lib.hid (Q4.out.keptF k5)
      rw [F.out.2.2.2.2.1] at o5
      have Q5 := Lib.hid (ReadsC.of_row o5)
      clear k5 k5' o5
      go_wp2_with fail
      refine (newest_any w5 (.slice ao k cap) (L.take k) (reads_take H2_5.out KL.out) TK.out.1 TK.out.2.1 TK.out.2.2).mono ?_
      rintro e w6 ⟨k6', ⟨h6, _⟩ | ⟨_, u6, rfl, o6⟩⟩
      · rw [F.out.1] at h6; cases h6
      obtain ⟨a6, m6, c6, rfl⟩ := own_shape o6
      have k6 := k6'
      have K6 := Lib.hid (keptFF K5.out k6)
      have H2_6 := Lib.hid (H2_5.out.keptF k6)
      have R1_6 := Lib.hid (R1_5.out.keptF k6)
      have Q3_6 := Lib.hid (Q3_5.out.keptF k6)
      have Q4_6 := Lib.hid (Q4_5.out.keptF k6)
      have Q5_6 := Lib.hid (Q5.out.keptF k6)
      have Q6 := Lib.hid (ReadsC.of_row o6)
      clear k6 k6' o6
      go_wp2_with fail
      refine (newest_any w6 (.slice X (L.length - k) (cap - k)) (L.drop k) (reads_drop H2_6.out HX.out) TD.out.1 TD.out.2.1 TD.out.2.2).mono ?_
      rintro e w7 ⟨k7', ⟨h7, _⟩ | ⟨_, u7, rfl, o7⟩⟩
      · rw [F.out.2.1] at h7; cases h7
      obtain ⟨a7, m7, c7, rfl⟩ := own_shape o7
      have k7 := k7'
      have K7 := Lib.hid (keptFF K6.out k7)
      have H2_7 := Lib.hid (H2_6.out.keptF k7)
      have R1_7 := Lib.hid (R1_6.out.keptF k7)
      have Q3_7 := Lib.hid (Q3_6.out.keptF k7)
      have Q4_7 := Lib.hid (Q4_6.out.keptF k7)
      have Q5_7 := Lib.hid (Q5_6.out.keptF k7)
      have Q6_7 := Lib.hid (Q6.out.keptF k7)
      have Q7 := Lib.hid (ReadsC.of_row o7)
      clear k7 k7' o7
      go_wp2_with fail
      refine (newest_any _ _ [firstF (mergeL (L.take k)), firstF (mergeL (L.drop k))] (reads_two (heap_alloc_new w7 _) (Q6_7.out.keptF ((Kept.refl (fun _ => False) w7).alloc _)) (Q7.out.keptF ((Kept.refl (fun _ => False) w7).alloc _))) (by simp) T3.out.1 T3.out.2).mono ?_
      rintro e w8 ⟨k8', ⟨h8, _⟩ | ⟨_, u8, rfl, o8⟩⟩
      · rw [F.out.2.2.2.1] at h8; cases h8
      obtain ⟨a8, m8, c8, rfl⟩ := own_shape o8
      have k8 : Kept (fun _ => False) w7 w8 := keptFF ((Kept.refl (fun _ => False) w7).alloc _) k8'
      have K8 := Lib.hid (keptFF K7.out k8)
      have H2_8 := Lib.hid (H2_7.out.keptF k8)
      have R1_8 := Lib.hid (R1_7.out.keptF k8)
      have Q3_8 := Lib.hid (Q3_7.out.keptF k8)
      have Q4_8 := Lib.hid (Q4_7.out.keptF k8)
      have Q5_8 := Lib.hid (Q5_7.out.keptF k8)
      have Q6_8 := Lib.hid (Q6_7.out.keptF k8)
      have Q7_8 := Lib.hid (Q7.out.keptF k8)
      rw [F.out.2.2.2.2.2] at o8
      have Q8 := Lib.hid (ReadsC.of_row o8)
      clear k8 k8' o8
      go_wp2_with fail
      refine (newest_any w8 (.slice ao L.length cap) L (H2_8.out) TL.out.1 TL.out.2.1 TL.out.2.2).mono ?_
      rintro e w9 ⟨k9', ⟨h9, _⟩ | ⟨_, u9, rfl, o9⟩⟩
      · rw [ALL.out] at h9; cases h9
      obtain ⟨a9, m9, c9, rfl⟩ := own_shape o9
      have k9 := k9'
      have K9 := Lib.hid (keptFF K8.out k9)
      have H2_9 := Lib.hid (H2_8.out.keptF k9)
      have R1_9 := Lib.hid (R1_8.out.keptF k9)
      have Q3_9 := Lib.hid (Q3_8.out.keptF k9)
      have Q4_9 := Lib.hid (Q4_8.out.keptF k9)
      have Q5_9 := Lib.hid (Q5_8.out.keptF k9)
      have Q6_9 := Lib.hid (Q6_8.out.keptF k9)
      have Q7_9 := Lib.hid (Q7_8.out.keptF k9)
      have Q8_9 := Lib.hid (Q8.out.keptF k9)
      have Q9 := Lib.hid (ReadsC.of_row o9)
      clear k9 k9' o9
      go_wp2_with fail
      refine (same_yes w9 _ _ _ Q5_9.out R1_9.out (Nat.le_trans (merge_le L) LT.out)).mono ?_
      rintro e w10 ⟨rfl, k10⟩
      have K10 := Lib.hid k10; clear k10
      go_wp2_with fail
      refine (same_yes w10 _ _ _ (Q8_9.out.keptF K10.out) (Q9.out.keptF K10.out) (Nat.le_trans (firstF_length _) (Nat.le_trans (merge_le L) LT.out))).mono ?_
      rintro e w11 ⟨rfl, k11⟩
      have K11 := Lib.hid (keptFF K10.out k11); clear k11
      go_wp2_with fail
      refine (does_any w11).mono ?_
      rintro e w12 ⟨rfl, k12⟩
      have K12 := Lib.hid (keptFF (keptFF K9.out K11.out) k12); clear k12
      go_wp2
      go_ret
      exact ⟨rfl, K12.out.below (fun _ _ f => f)⟩
    · rw [hs]
      rintro e w2 ⟨rfl, k2⟩
      have K2 := Lib.hid (keptFF K1.out k2); clear k2 hs
      go_wp2_with fail
      refine (does_any w2).mono ?_
      rintro e w3 ⟨rfl, k3⟩
      have K3 := Lib.hid (keptFF K2.out k3); clear k3
      go_wp2
      go_ret
      exact ⟨rfl, K3.out.below (fun _ _ f => f)⟩
end Go.Proofs.Ytfhpjopdndnmgaa
