/- spoorlaw14.TreesOf. -/
import Derived.Test.YtjidldbolbjdpaaDoes
namespace Go.Proofs.Ytjidldbolbjdpaa
open Go.RowKit

theorem forF_wide (g : Nat → Fr) (R : List Spn) (b : Nat) : ∀ l : List Nat, (∀ k ∈ l, (g k).len ≤ b ∧ (g k).wide b) → (forF g R l).wide b
  | [], _ => trivial
  | k :: t, h => ⟨(h k (by simp)).1, (h k (by simp)).2, forF_wide g R b t (fun q hq => h q (by simp [hq]))⟩
theorem subF_wide (R : List Spn) : ∀ d i, (subF R d i).len ≤ R.length ∧ (subF R d i).wide R.length
  | 0, _ => ⟨Nat.zero_le _, trivial⟩
  | d + 1, i => ⟨by rw [subF, forF_len]; exact kidF_len R R.length i, forF_wide _ _ _ _ (fun k _ => subF_wide R d k)⟩
theorem wide_mono {a b : Nat} (h : a ≤ b) : ∀ f : Fr, f.wide a → f.wide b
  | .nil, _ => trivial
  | .cons _ k r, ⟨h1, h2, h3⟩ => ⟨Nat.le_trans h1 h, wide_mono h k h2, wide_mono h r h3⟩
theorem roots_wide (R : List Spn) (h : R.length ≤ 1000) : (rootsF R).len ≤ 1000 ∧ (rootsF R).wide 1000 := by
  refine ⟨?_, wide_mono h _ (forF_wide _ _ _ _ (fun k _ => subF_wide R _ k))⟩
  rw [rootsF, forF_len, rootsL]
  exact Nat.le_trans (List.length_filter_le _ _) (by simpa using h)
theorem orph_wide (R : List Spn) (h : R.length ≤ 1000) : (orphF R).len ≤ 1000 ∧ (orphF R).wide 1000 := by
  refine ⟨?_, wide_mono h _ (forF_wide _ _ _ _ (fun k _ => subF_wide R _ k))⟩
  rw [orphF, forF_len, orphL]
  exact Nat.le_trans (List.length_filter_le _ _) (by simpa using h)
theorem src_reads {w : World} {v : Value} {L : List Spn} (h : ReadsS w v L) : Src w v L.length (cellsS L) := by
  obtain ⟨ao, cap, e, h⟩ := h
  refine ⟨ao, cap, e, ?_⟩
  rcases h with rfl | ⟨g, o, rfl, hc⟩
  · cases ao with
    | none => exact .inl ⟨rfl, rfl, rfl⟩
    | some a => exact .inr ⟨a, rfl, fun j u hu => by simp [cellsS] at hu⟩
  · exact .inr ⟨_, rfl, fun j u hu => by rw [add_mid]; exact hc j u hu⟩
theorem wpList_make0 {P : Program} {ops : Array Oper} {rest : List Oper} {o : Oper} {a : Act} {w : World} {Q : Exit → Act → World → Prop} (hgd : o.guard = none) (t : TypeId) (x y : Operand) (ho : o.op = .makeSlice t x y)
    (e : TypeId) (i : TypeInfo) (z : Value) (size bytes : Nat) (ht : P.underlying t = some (.slice e)) (hi : P.info? e = some i) (hz : i.zero = some z) (hsize : i.size = size) (hby : i.bytes = bytes)
    (c : Nat) (hx : a.eval x = .int .i64 0) (hy : a.eval y = .int .i64 c) (hc : c ≤ 1000) (hb : bytes ≤ 1000)
    (h : ∀ w', w'.ownsRow w.heap.size e size (.slice (some ⟨w.heap.size, 0, none⟩) 0 c) 0 [] → Kept (fun _ => False) w w' → wpList P ops Q rest (a.put o.dst (.slice (some ⟨w.heap.size, 0, none⟩) 0 c)) w') : wpList P ops Q (o :: rest) a w :=
  wpList_step fun _ hK => by
    rw [if_pos (by simp [Region.wanted, hgd])]
    have hmul : bytes * c ≤ 1000 * 1000 := Nat.mul_le_mul hb hc
    have hb2 : (i.bytes : Int) * (c : Int) ≤ 281474976710656 := by
      rw [hby, ← Int.natCast_mul]; omega
    have hr := run_make (P := P) w t e i z ht hi hz .i64 .i64 (0 : Int) (c : Int) (by omega) (by omega) hb2 (by omega)
    simp only [Int.toNat_natCast, Int.toNat_zero] at hr
    unfold Oper.wp execOp
    simp only [ho, hx, hy, hr, Sem.run_bind, Sem.run_pure, Result.andThen_ok]
    refine hK _ _ (h _ ?_ ((Kept.refl _ w).alloc _))
    exact World.ownsRow_made w (madeCells z.cells (c * i.size)) c (Nat.le_refl _) (by unfold maxLen; omega) (by rw [size_madeCells, hsize])

theorem row_some {w : World} {base e size n cap : Nat} {a : Option Addr} {xs : List Value} (h : w.ownsRow base e size (.slice a (n + 1) cap) (n + 1) xs) (_ : 0 < n + 1) : ∃ g, a = some ⟨g, 0, none⟩ ∧ n + 1 ≤ cap := by
  rcases row_form h with ⟨_, h⟩ | ⟨g, c, h, hle, _⟩
  · omega
  · cases h; exact ⟨g, rfl, hle⟩
def mark70 : Spn := ⟨0, -70, 0, ⟨#[]⟩, ⟨#[]⟩, 0, 0, ⟨#[]⟩⟩
set_option maxHeartbeats 8000000 in
set_option maxRecDepth 100000 in
theorem treesOf_any (w : World) (v : Value) (L : List Spn) (h : ReadsS w v L) (hm : L.length ≤ maxLen) :
    Calls Try.prog 3 #[v] w fun e w' => e = .returned (.bool true) ∧ Kept (fun _ => False) w w' := by
  have HR := Lib.hid h
  obtain ⟨ao, capL, rfl, _⟩ := h
  obtain ⟨n, hn⟩ : ∃ n, L.length = n := ⟨_, rfl⟩
  have HN := Lib.hid hn
  rw [hn] at hm HR ⊢
  unfold maxLen at hm
  clear hn
  by_cases hbig : 60 < n
  · have h0 : (60 : Int) < (n : Int) := by omega
    go_enter Try.func3, Try.ntmps3
    go_wp2
    go_ret
    exact ⟨rfl, Kept.refl _ _⟩
  · have h0 : ¬ (60 : Int) < (n : Int) := by omega
    have hn60 : n ≤ 60 := by omega
    have e1 : IntKind.i64.wrap ((n : Int) + 1) = ((n + 1 : Nat) : Int) := IntWalk.i64_in _ (by omega)
    obtain ⟨i24, hi24, z24, s24, b24⟩ := info_parts inf24
    obtain ⟨b0, hb0⟩ : ∃ b, w.heap.size = b := ⟨_, rfl⟩
    have HB0 := Lib.hid hb0
    have SRC := Lib.hid (show Src w (.slice ao n capL) n (cellsS L) from by have := src_reads HR.out; rwa [HN.out] at this)
    clear hbig
    go_enter Try.func3, Try.ntmps3
    go_wp2_with (refine wpList_make0 (by rfl) 22 _ _ (by rfl) 24 i24 _ 8 88 Try.underlying22 hi24 z24 s24 b24 (n + 1) (by rfl) (by rfl) (by omega) (by decide) ?_)
    intro w1 own1 k1
    have O1 := Lib.hid own1; have K1 := Lib.hid k1
    clear own1 k1 hb0
    have q0 : (0 : Int) ≤ (n : Int) := by omega
    go_wp2_with (at_builtin; first | (refine wpList_step (fun _ hK => step_appG (by rfl) _ _ 22 (by rfl) b0 24 i24 _ 8 88 Try.underlying22 hi24 z24 s24 b24 (by rfl) (by decide) (.slice (some ⟨b0, 0, none⟩) 0 (n + 1)) 0 [] (by rfl) O1.out n (cellsS L) (.slice ao n capL) (by rfl) (SRC.out.kept K1.out) (by rw [cellsS_length, HN.out]) (cellsS_one _) (by unfold maxLen; omega) (by omega) (by have h1 := HB0.out; have h2 := K1.out.size; omega) ?_); intro ao2 cap2 w2 hown hk hat; refine hK _ _ ?_; clear hK; rw [Nat.zero_add, List.nil_append] at hown; have O2 := Lib.hid hown; have K2 := Lib.hid (K1.out.trans hk (fun _ _ f => f) (fun q h1 h2 => by cases h2; have h3 := HB0.out; have h4 : b0 < w.heap.size := h1; omega) : Kept (fun _ => False) w w2); have B2 := Lib.hid (show b0 ≤ w2.heap.size from by have h1 := HB0.out; have h2 := K2.out.size; omega); clear hown hk hat) | (go_loud (refine wpList_step (fun _ hK => step_app (by rfl) _ _ 22 (by rfl) b0 24 i24 _ 8 88 Try.underlying22 hi24 z24 s24 b24 (by rfl) (by decide) (.slice ao2 n cap2) n (cellsS L) (by rfl) (O2.out.alloc _) ⟨w2.heap.size, 0, none⟩ 1 1 mark70.cells (by rfl) (by rfl) (World.news_of_block (heap_alloc_new w2 _)) (fun u hu => cellsS_one [mark70] u (by simpa [cellsS] using hu)) (by unfold maxLen; omega) (by omega) (((Kept.refl (fun _ => False) w2).alloc _).size |> Nat.le_trans B2.out) ?_)); go_loud (intro ao3 cap3 w3 hown hgr hat); go_loud (refine hK _ _ ?_); clear hK; go_loud (obtain ⟨g3, hao3, hc3⟩ := row_some hown (by omega)); go_loud (subst hao3); go_loud (have O3 := Lib.hid hown); go_loud (have K3 := Lib.hid ((K2.out.alloc _).trans (grown_kept hgr) (fun _ _ f => f) (fun q h1 h2 => by have h3 := (own_lt O2.out h2).1; have h4 := HB0.out; omega) : Kept (fun _ => False) w w3)); go_loud (have q2 : (n : Int) ≤ (cap3 : Int) := by omega); go_loud (have q3 : (n : Int) + 1 ≤ (cap3 : Int) := by omega); go_loud (clear hown hgr hat)))
    have RT := Lib.hid (show ReadsS w3 (.slice (some ⟨g3, 0, none⟩) n cap3) L from by
      have := own_reads O3.out (R := L) (fun j hj => by rw [List.getElem?_append_left (by rw [cellsS_length]; exact hj)]) cap3
      rwa [HN.out] at this)
    have C70 := Lib.hid (show w3.cell? ⟨g3, n * 8 + 1, none⟩ = some (.int .i64 (-70)) from own_cellN O3.out (by
      rw [List.getElem?_append_right (by rw [cellsS_length, HN.out]; omega), cellsS_length, HN.out, show n * 8 + 1 - n * 8 = 1 by omega]; rfl))
    have HL := Lib.hid (show L.length ≤ 1000 from by rw [HN.out]; omega)
    have RC := Lib.hid (show (cntF L).length ≤ 1000 from Nat.le_trans (cntF_len L) HL.out)
    refine (tof_any w3 _ L RT.out HL.out).mono ?_
    rintro e w4 ⟨rv, ov, rfl, r1, o1, k4⟩
    obtain ⟨ra, rc, er, _⟩ := id r1
    obtain ⟨oa, oc, eo, _⟩ := id o1
    obtain ⟨rn, hrn⟩ : ∃ x, (rootsF (cntF L)).len = x := ⟨_, rfl⟩
    obtain ⟨on, hon⟩ : ∃ x, (orphF (cntF L)).len = x := ⟨_, rfl⟩
    rw [hrn] at er
    rw [hon] at eo
    subst er eo
    have R1 := Lib.hid r1; have OO1 := Lib.hid o1; have K4 := Lib.hid (keptFF K3.out k4); have K34 := Lib.hid k4
    clear r1 o1 k4 hrn hon
    go_wp2_with fail
    refine (rof_any w4 _ L (HR.out.keptF K4.out) HL.out).mono ?_
    rintro e w5 ⟨rv2, ov2, rfl, r2, o2, k5⟩
    obtain ⟨ra2, rc2, er2, _⟩ := id r2
    obtain ⟨oa2, oc2, eo2, _⟩ := id o2
    obtain ⟨rn2, hrn2⟩ : ∃ x, (rootsF (cntF L)).len = x := ⟨_, rfl⟩
    obtain ⟨on2, hon2⟩ : ∃ x, (orphF (cntF L)).len = x := ⟨_, rfl⟩
    rw [hrn2] at er2
    rw [hon2] at eo2
    subst er2 eo2
    have R2 := Lib.hid r2; have OO2 := Lib.hid o2; have K5 := Lib.hid (keptFF K4.out k5); have K35 := Lib.hid (keptFF K34.out k5); have K45 := Lib.hid k5
    clear r2 o2 k5 hrn2 hon2
    go_wp2_with fail
    refine (same_any _ _ w5 _ _ _ _ _ _ _ _ (R1.out.kept K45.out) (OO1.out.kept K45.out) R2.out OO2.out (roots_wide _ RC.out) (orph_wide _ RC.out)).mono ?_
    rintro e w6 ⟨rfl, k6⟩
    rw [sameB_refl, sameB_refl]
    simp only [Bool.and_self]
    have K6 := Lib.hid (keptFF K5.out k6); have K36 := Lib.hid (keptFF K35.out k6)
    clear k6
    go_wp2_with fail
    refine (samespans_any w6 _ _ L L (RT.out.keptF K36.out) (HR.out.keptF K6.out) HL.out).mono ?_
    rintro e w7 ⟨rfl, k7⟩
    rw [sameB_refl]
    have K7 := Lib.hid (keptFF K6.out k7)
    have c70 := (keptFF K36.out k7).cell C70.out (fun f => f)
    have q4 : (n : Int) < (n : Int) + 1 := by omega
    clear k7
    go_wp2_with fail
    refine (does_any w7).mono ?_
    rintro e w8 ⟨rfl, k8⟩
    have K8 := Lib.hid (keptFF K7.out k8)
    clear k8
    go_wp2
    go_ret
    exact ⟨rfl, K8.out⟩
end Go.Proofs.Ytjidldbolbjdpaa
