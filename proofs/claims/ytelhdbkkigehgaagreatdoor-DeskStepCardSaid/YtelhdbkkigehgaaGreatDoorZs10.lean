/- A part of the proof. -/
import Derived.Test.YtelhdbkkigehgaaGreatDoorZs9
import Derived.Test.YtelhdbkkigehgaaGreatDoorZs5
import Derived.Test.YtelhdbkkigehgaaGreatDoorZs6

/- The desk's span: what nine words say. -/
namespace Go.Proofs.YtelhdbkkigehgaaGreatDoor
open Go.RowKit

/-- These words say a step of kind log. -/
def SaysLog (ws : List ByteArray) (n : Int) (sp : Spn) : Prop := ∃ x x1 x2 x3 x4 x5 no, ws = [x, x1, x2, x3, sp.se, sp.ho, x4, x5, no] ∧ Says x n ∧ Says x1 sp.tr ∧ Says x2 sp.id ∧ Says x3 sp.pa ∧ Says x4 sp.st ∧ Says x5 sp.du ∧ noteB no = sp.no
/-- A step is told; if it is said to be one, the words say it. -/
def SpanT (w : World) (b : Nat) (e : Ending) (ws : List ByteArray) : Prop := ∃ (u : Stp) (ok : Bool), e = .returned (.tuple #[u.val, .bool ok]) ∧ (ok = true → ∃ n sp, SaysLog ws n sp ∧ StepIs w b u.val 1 n 0 sp [])
def stpZ : Stp := ⟨0, 0, 0, spZ, none, 0, 0⟩
theorem SpanT.no {w : World} {b : Nat} {ws : List ByteArray} (u : Stp) : SpanT w b (.returned (.tuple #[u.val, .bool false])) ws := ⟨u, false, rfl, fun h => by cases h⟩
theorem nine {ws : List ByteArray} (h : ws.length = 9) : ∃ x0 x1 x2 x3 x4 x5 x6 x7 x8, ws = [x0, x1, x2, x3, x4, x5, x6, x7, x8] := by
  match ws, h with
  | [x0, x1, x2, x3, x4, x5, x6, x7, x8], _ => exact ⟨_, _, _, _, _, _, _, _, _, rfl⟩
theorem says_six {x0 x1 x2 x3 x4 x5 : ByteArray} {ns : List Int} (h : SaysL [x0, x1, x2, x3, x4, x5] ns) : ∃ n0 n1 n2 n3 n4 n5, ns = [n0, n1, n2, n3, n4, n5] ∧ Says x0 n0 ∧ Says x1 n1 ∧ Says x2 n2 ∧ Says x3 n3 ∧ Says x4 n4 ∧ Says x5 n5 := by
  match ns, h with
  | [n0, n1, n2, n3, n4, n5], ⟨h0, h1, h2, h3, h4, h5, _⟩ => exact ⟨_, _, _, _, _, _, rfl, h0, h1, h2, h3, h4, h5⟩
theorem words_of {w : World} {b : Nat} {v : Value} {ws : List ByteArray} (h : w.ownsRow b 9 1 v ws.length (ws.map Value.string)) : WordsR w v ws := by
  obtain ⟨_, h⟩ := h
  rcases h with ⟨rfl, h0⟩ | ⟨g, cap, cur, rfl, _, hg, _, _, _, h3⟩
  · have : ws = [] := List.eq_nil_of_length_eq_zero h0
    subst this
    exact ⟨none, 0, rfl, .inl rfl⟩
  · refine ⟨_, cap, rfl, .inr ⟨g, 0, rfl, fun j n hn => ?_⟩⟩
    have hj := (List.getElem?_eq_some_iff.1 hn).1
    have h4 : (cur.toList.take (ws.length * 1))[j]? = some (.string n) := by rw [h3, List.getElem?_map, hn]; rfl
    rw [List.getElem?_take, if_pos (by omega)] at h4
    unfold World.cell?
    rw [hg]
    simpa using h4
set_option maxHeartbeats 4000000 in
set_option maxRecDepth 100000 in
theorem span_d {w : World} {ao : Option Addr} {ws : List ByteArray} (R : WordsR w (.slice ao ws.length ws.length) ws) (hs : ∀ x ∈ ws, x.size ≤ 1000000000) (E : Vr w) :
    Calls Tryz.prog 39 #[.slice ao ws.length ws.length] w fun e w' => SpanT w' w.heap.size e ws ∧ Kept (fun _ => False) w w' := by
  by_cases h9 : ws.length = 9
  · obtain ⟨_, _, e, R⟩ := R
    have hne : ¬ ws = [] := fun e => by rw [e] at h9; simp at h9
    obtain ⟨g, o, rfl, hc⟩ := R.resolve_left hne
    cases e
    obtain ⟨x0, x1, x2, x3, x4, x5, x6, x7, x8, rfl⟩ := nine h9
    have c4 : w.cell? ⟨g, o + 4, none⟩ = some (.string x4) := hc 4 x4 rfl
    have c5 : w.cell? ⟨g, o + 5, none⟩ = some (.string x5) := hc 5 x5 rfl
    have c8 : w.cell? ⟨g, o + 8, none⟩ = some (.string x8) := hc 8 x8 rfl
    have C4 := Lib.hid c4; have C5 := Lib.hid c5; have C8 := Lib.hid c8
    have HC := Lib.hid hc
    have EE := Lib.hid E
    have HS := Lib.hid hs
    simp only [List.length_cons, List.length_nil]
    clear R hne hc E hs h9 c4 c5 c8
    obtain ⟨q, hq⟩ : ∃ q, w.heap.size = q := ⟨_, rfl⟩
    have HQ := Lib.hid hq
    obtain ⟨W0, hW0⟩ : ∃ W, w.alloc (Obj.cells zCells 38) = W := ⟨_, rfl⟩
    have K0 := Lib.hid (show Kept (fun _ => False) w W0 from by rw [← hW0]; exact (Kept.refl _ _).alloc _)
    have A0 := Lib.hid (show W0.heap[q]? = some (Obj.cells zCells 38 (0, 0)) from by rw [← hW0, ← hq]; exact heap_alloc_new w _)
    unfold zCells at hW0
    go_enter Tryz.func39, Tryz.ntmps39
    go_wp2_with fail
    clear hW0 hq
    have CC := Lib.hid (fun (W : World) (K : Kept (fun _ => False) W0 W) (sb c1 c2 : Nat) h0 h1 => concat_42 (w := W) (sb := sb) (g := g) (o1 := o) (c1 := c1) (o2 := o + 6) (c2 := c2) (xs := [x0, x1, x2, x3]) (ys := [x6, x7]) h0 h1 (fun j x hx => (K0.out.trans K (fun _ _ f => f) (fun _ _ f => f) : Kept (fun _ => False) w W).cell (HC.out j x (by
        have := (List.getElem?_eq_some_iff.1 hx).1
        match j, hx with
        | 0, hx => exact hx
        | 1, hx => exact hx
        | 2, hx => exact hx
        | 3, hx => exact hx
        | j + 4, hx => simp at hx)) (fun f => f)) (fun j x hx => by
          have := (K0.out.trans K (fun _ _ f => f) (fun _ _ f => f) : Kept (fun _ => False) w W).cell (HC.out (6 + j) x (by
            match j, hx with
            | 0, hx => exact hx
            | 1, hx => exact hx
            | j + 2, hx => simp at hx)) (fun f => f)
          rwa [← Nat.add_assoc] at this) rfl rfl)
    have ND := Lib.hid (fun (W : World) (K : Kept (fun _ => False) W0 W) (v : Value) (R : WordsR W v [x0, x1, x2, x3, x6, x7]) => numbers_all R (fun x hx => HS.out x (by simp at hx ⊢; rcases hx with h | h | h | h | h | h <;> simp [h])) (by simp) (EE.out.kept (K0.out.trans K (fun _ _ f => f) (fun _ _ f => f) : Kept (fun _ => False) w W) (fun _ _ f => f)))
    go_region_held3 (fun w' => Kept (fun _ => False) W0 w') (first | assumption | exact (Kept.refl _ _).drew | exact ((Kept.refl _ _).alloc _).drew | exact (((Kept.refl _ _).drew).alloc _))
      (first
        | (go_at_call 14; refine (ND.out _ hk5 _ (words_of ho5)).mono ?_; rintro e w6 ⟨⟨v6, ok, rfl, hok⟩, k6⟩; (have OK := Lib.hid hok); (have Z5 := Lib.hid hk5.size); (have hk6 : Kept (fun _ => False) W0 w6 := hk5.trans k6 (fun _ _ f => f) (fun _ _ f => f)); clear hok k6 hk5 ho5)
        | (go_at_call 79; refine (CC.out _ ((Kept.refl _ _).alloc _).drew W0.heap.size 9 3 (by simp [go_sem]) (by simp [go_sem])).mono ?_; rintro e w5 ⟨v5, rfl, ho5, k5⟩; (have hk5 : Kept (fun _ => False) W0 w5 := Kept.trans ((Kept.refl _ _).alloc _).drew k5 (fun _ _ f => f) (fun _ _ f => f)); clear k5))
    have A6 := Lib.hid ((hk6.block q (blk_lt A0.out) (fun f => f)).trans A0.out)
    have K6 := Lib.hid (K0.out.trans hk6 (fun _ _ f => f) (fun _ _ f => f) : Kept (fun _ => False) w w6)
    have LT := Lib.hid (show ∀ r, q ≤ r → ¬ r < w.heap.size from fun r h1 => by have := HQ.out; omega)
    have HK6 := Lib.hid hk6
    have q6 := blk_lt A6.out
    clear hk6
    cases ok with
    | false =>
      have za0 : w6.cell? ⟨q, 0, none⟩ = some (.int .i64 0) := blk_cell A6.out 0
      have fa0 := blk_free A6.out 0
      have za1 : w6.cell? ⟨q, 1, none⟩ = some (.int .i64 0) := blk_cell A6.out 1
      have fa1 := blk_free A6.out 1
      have za2 : w6.cell? ⟨q, 2, none⟩ = some (.int .i64 0) := blk_cell A6.out 2
      have fa2 := blk_free A6.out 2
      have za3 : w6.cell? ⟨q, 3, none⟩ = some (.int .i64 0) := blk_cell A6.out 3
      have fa3 := blk_free A6.out 3
      have za4 : w6.cell? ⟨q, 4, none⟩ = some (.int .i64 0) := blk_cell A6.out 4
      have fa4 := blk_free A6.out 4
      have za5 : w6.cell? ⟨q, 5, none⟩ = some (.int .i64 0) := blk_cell A6.out 5
      have fa5 := blk_free A6.out 5
      have za6 : w6.cell? ⟨q, 6, none⟩ = some (.string ⟨#[]⟩) := blk_cell A6.out 6
      have fa6 := blk_free A6.out 6
      have za7 : w6.cell? ⟨q, 7, none⟩ = some (.string ⟨#[]⟩) := blk_cell A6.out 7
      have fa7 := blk_free A6.out 7
      have za8 : w6.cell? ⟨q, 8, none⟩ = some (.int .i64 0) := blk_cell A6.out 8
      have fa8 := blk_free A6.out 8
      have za9 : w6.cell? ⟨q, 9, none⟩ = some (.int .i64 0) := blk_cell A6.out 9
      have fa9 := blk_free A6.out 9
      have za10 : w6.cell? ⟨q, 10, none⟩ = some (.string ⟨#[]⟩) := blk_cell A6.out 10
      have fa10 := blk_free A6.out 10
      have za11 : w6.cell? ⟨q, 11, none⟩ = some (.slice none 0 0) := blk_cell A6.out 11
      have fa11 := blk_free A6.out 11
      go_wp2_with fail
      (try simp only [Exit.inBlock, Exit.then])
      refine bodyPost_ret (v := .tuple #[stpZ.val, .bool false]) ?_ rfl ⟨SpanT.no _, ?_⟩
      · rw [res_cell_tmp rfl]
        go_simp
        rfl
      · iterate 12 refine Kept.setAt (fun hl => absurd hl (LT.out _ (by omega))) ?_
        exact K6.out
    | true =>
      obtain ⟨ns, hir, hsl⟩ := OK.out rfl
      obtain ⟨n0, n1, n2, n3, n4, n5, rfl, h0, h1, h2, h3, h4, h5⟩ := says_six hsl
      obtain ⟨g6, cap6, rfl, hge, hcap, hcl⟩ := IntsR.at hir (by simp)
      have ne1 : ¬ g6 = q := by have := Z5.out; have := blk_lt A0.out; omega
      have ne2 : ¬ q = g6 := fun e => ne1 e.symm
      have ne3 : ¬ w6.heap.size = q := by omega
      have ne4 : ¬ q = w6.heap.size := by omega
      have d0 : w6.cell? ⟨g6, 0, none⟩ = some (.int .i64 n0) := hcl 0 n0 rfl
      have d1 : w6.cell? ⟨g6, 1, none⟩ = some (.int .i64 n1) := hcl 1 n1 rfl
      have d2 : w6.cell? ⟨g6, 2, none⟩ = some (.int .i64 n2) := hcl 2 n2 rfl
      have d3 : w6.cell? ⟨g6, 3, none⟩ = some (.int .i64 n3) := hcl 3 n3 rfl
      have d4 : w6.cell? ⟨g6, 4, none⟩ = some (.int .i64 n4) := hcl 4 n4 rfl
      have d5 : w6.cell? ⟨g6, 5, none⟩ = some (.int .i64 n5) := hcl 5 n5 rfl
      have c4 := K6.out.cell C4.out (fun f => f)
      have c5 := K6.out.cell C5.out (fun f => f)
      have c8 := K6.out.cell C8.out (fun f => f)
      have D0 := Lib.hid d0
      have SY := Lib.hid (And.intro h0 (And.intro h1 (And.intro h2 (And.intro h3 (And.intro h4 h5)))))
      have bg6 : g6 < w6.heap.size := World.block_lt_of_cell? _ _ d0
      have bg : g < w6.heap.size := World.block_lt_of_cell? _ _ c4
      simp only [List.length_cons, List.length_nil] at hcap ⊢
      clear hir hsl hcl hge h0 h1 h2 h3 h4 h5 OK
      go_wp2_with fail
      go_region_held3 (fun w' => w'.cell? ⟨g6, 1, none⟩ = some (.int .i64 n1) ∧ w'.cell? ⟨g6, 2, none⟩ = some (.int .i64 n2) ∧ w'.cell? ⟨g6, 3, none⟩ = some (.int .i64 n3) ∧ w'.cell? ⟨g6, 4, none⟩ = some (.int .i64 n4) ∧ w'.cell? ⟨g6, 5, none⟩ = some (.int .i64 n5) ∧ w'.cell? ⟨g, o + 4, none⟩ = some (.string x4) ∧ w'.cell? ⟨g, o + 5, none⟩ = some (.string x5) ∧ w'.cell? ⟨g, o + 8, none⟩ = some (.string x8)) (first | go_keep | (simp [go_sem, *]; done)) (fail)
      obtain ⟨b6, hb6⟩ : ∃ b, w6.heap.size = b := ⟨_, rfl⟩
      refine then_gen (fun W => Kept (fun _ => False) w6 W ∧ W.heap[b6]? = some (.cells #[.int .i64 n1, .int .i64 n2, .int .i64 n3, .string x4, .string x5, .int .i64 n4, .int .i64 n5, .string x8] 35 (0, 0))) ⟨((Kept.refl _ _).alloc _).drew, by rw [← hb6]; exact heap_alloc_new w6 _⟩ (fun W7 hW7 => ?_)
      obtain ⟨k7, hB7⟩ := hW7
      have K7 := Lib.hid (K6.out.trans k7 (fun _ _ f => f) (fun _ _ f => f) : Kept (fun _ => False) w W7)
      have d0 := k7.cell D0.out (fun f => f)
      have A7 := Lib.hid ((k7.block q (blk_lt A6.out) (fun f => f)).trans A6.out)
      have B7 := Lib.hid hB7
      rw [hb6] at ne3 ne4 bg6 ⊢
      have NE3 := Lib.hid (show q < b6 from by omega)
      have ne5 : ¬ b6 = g6 := by omega
      have ne6 : ¬ g6 = b6 := by omega
      clear k7 hB7 hb6 q6 d1 d2 d3 d4 d5 c4 c5 c8 bg6 bg
      have xb0 : W7.cell? ⟨b6, 0, none⟩ = some (.int .i64 n1) := blk_cell B7.out 0
      have xb1 : W7.cell? ⟨b6, 1, none⟩ = some (.int .i64 n2) := blk_cell B7.out 1
      have xb2 : W7.cell? ⟨b6, 2, none⟩ = some (.int .i64 n3) := blk_cell B7.out 2
      have xb3 : W7.cell? ⟨b6, 3, none⟩ = some (.string x4) := blk_cell B7.out 3
      have xb4 : W7.cell? ⟨b6, 4, none⟩ = some (.string x5) := blk_cell B7.out 4
      have xb5 : W7.cell? ⟨b6, 5, none⟩ = some (.int .i64 n4) := blk_cell B7.out 5
      have xb6 : W7.cell? ⟨b6, 6, none⟩ = some (.int .i64 n5) := blk_cell B7.out 6
      have xb7 : W7.cell? ⟨b6, 7, none⟩ = some (.string x8) := blk_cell B7.out 7
      have fb7 := blk_free B7.out 7
      have za0 : W7.cell? ⟨q, 0, none⟩ = some (.int .i64 0) := blk_cell A7.out 0
      have fa0 := blk_free A7.out 0
      have za1 : W7.cell? ⟨q, 1, none⟩ = some (.int .i64 0) := blk_cell A7.out 1
      have fa1 := blk_free A7.out 1
      have za2 : W7.cell? ⟨q, 2, none⟩ = some (.int .i64 0) := blk_cell A7.out 2
      have fa2 := blk_free A7.out 2
      have za3 : W7.cell? ⟨q, 3, none⟩ = some (.int .i64 0) := blk_cell A7.out 3
      have fa3 := blk_free A7.out 3
      have za4 : W7.cell? ⟨q, 4, none⟩ = some (.int .i64 0) := blk_cell A7.out 4
      have fa4 := blk_free A7.out 4
      have za5 : W7.cell? ⟨q, 5, none⟩ = some (.int .i64 0) := blk_cell A7.out 5
      have fa5 := blk_free A7.out 5
      have za6 : W7.cell? ⟨q, 6, none⟩ = some (.string ⟨#[]⟩) := blk_cell A7.out 6
      have fa6 := blk_free A7.out 6
      have za7 : W7.cell? ⟨q, 7, none⟩ = some (.string ⟨#[]⟩) := blk_cell A7.out 7
      have fa7 := blk_free A7.out 7
      have za8 : W7.cell? ⟨q, 8, none⟩ = some (.int .i64 0) := blk_cell A7.out 8
      have fa8 := blk_free A7.out 8
      have za9 : W7.cell? ⟨q, 9, none⟩ = some (.int .i64 0) := blk_cell A7.out 9
      have fa9 := blk_free A7.out 9
      have za10 : W7.cell? ⟨q, 10, none⟩ = some (.string ⟨#[]⟩) := blk_cell A7.out 10
      have fa10 := blk_free A7.out 10
      have za11 : W7.cell? ⟨q, 11, none⟩ = some (.slice none 0 0) := blk_cell A7.out 11
      have fa11 := blk_free A7.out 11
      by_cases hno : x8 = ⟨#[45]⟩
      · subst hno
        go_wp2_with fail
        refine wp_gen (fun W => Kept (fun k => k = b6) W7 W ∧ W.heap[b6]? = some (.cells #[.int .i64 n1, .int .i64 n2, .int .i64 n3, .string x4, .string x5, .int .i64 n4, .int .i64 n5, .string ⟨#[]⟩] 35 (0, 0))) ⟨Kept.setAt (fun _ => rfl) (Kept.refl _ _), blk_set B7.out 7 _⟩ (fun W8 hW8 => ?_)
        obtain ⟨k8, hB8⟩ := hW8
        have K8 := Lib.hid (K7.out.trans k8 (fun _ _ f => f) (fun r hr e => absurd hr (LT.out _ (by have := NE3.out; omega))) : Kept (fun _ => False) w W8)
        have d0 := k8.cell d0 (by omega)
        have A8 := Lib.hid ((k8.block q (blk_lt A7.out) (by omega)).trans A7.out)
        have B8 := Lib.hid hB8
        clear k8 hB8 fb7 xb0 xb1 xb2 xb3 xb4 xb5 xb6 xb7 za0 fa0 za1 fa1 za2 fa2 za3 fa3 za4 fa4 za5 fa5 za6 fa6 za7 fa7 za8 fa8 za9 fa9 za10 fa10 za11 fa11
        have xb0 : W8.cell? ⟨b6, 0, none⟩ = some (.int .i64 n1) := blk_cell B8.out 0
        have xb1 : W8.cell? ⟨b6, 1, none⟩ = some (.int .i64 n2) := blk_cell B8.out 1
        have xb2 : W8.cell? ⟨b6, 2, none⟩ = some (.int .i64 n3) := blk_cell B8.out 2
        have xb3 : W8.cell? ⟨b6, 3, none⟩ = some (.string x4) := blk_cell B8.out 3
        have xb4 : W8.cell? ⟨b6, 4, none⟩ = some (.string x5) := blk_cell B8.out 4
        have xb5 : W8.cell? ⟨b6, 5, none⟩ = some (.int .i64 n4) := blk_cell B8.out 5
        have xb6 : W8.cell? ⟨b6, 6, none⟩ = some (.int .i64 n5) := blk_cell B8.out 6
        have xb7 : W8.cell? ⟨b6, 7, none⟩ = some (.string ⟨#[]⟩) := blk_cell B8.out 7
        have za0 : W8.cell? ⟨q, 0, none⟩ = some (.int .i64 0) := blk_cell A8.out 0
        have fa0 := blk_free A8.out 0
        have za1 : W8.cell? ⟨q, 1, none⟩ = some (.int .i64 0) := blk_cell A8.out 1
        have fa1 := blk_free A8.out 1
        have za2 : W8.cell? ⟨q, 2, none⟩ = some (.int .i64 0) := blk_cell A8.out 2
        have fa2 := blk_free A8.out 2
        have za3 : W8.cell? ⟨q, 3, none⟩ = some (.int .i64 0) := blk_cell A8.out 3
        have fa3 := blk_free A8.out 3
        have za4 : W8.cell? ⟨q, 4, none⟩ = some (.int .i64 0) := blk_cell A8.out 4
        have fa4 := blk_free A8.out 4
        have za5 : W8.cell? ⟨q, 5, none⟩ = some (.int .i64 0) := blk_cell A8.out 5
        have fa5 := blk_free A8.out 5
        have za6 : W8.cell? ⟨q, 6, none⟩ = some (.string ⟨#[]⟩) := blk_cell A8.out 6
        have fa6 := blk_free A8.out 6
        have za7 : W8.cell? ⟨q, 7, none⟩ = some (.string ⟨#[]⟩) := blk_cell A8.out 7
        have fa7 := blk_free A8.out 7
        have za8 : W8.cell? ⟨q, 8, none⟩ = some (.int .i64 0) := blk_cell A8.out 8
        have fa8 := blk_free A8.out 8
        have za9 : W8.cell? ⟨q, 9, none⟩ = some (.int .i64 0) := blk_cell A8.out 9
        have fa9 := blk_free A8.out 9
        have za10 : W8.cell? ⟨q, 10, none⟩ = some (.string ⟨#[]⟩) := blk_cell A8.out 10
        have fa10 := blk_free A8.out 10
        have za11 : W8.cell? ⟨q, 11, none⟩ = some (.slice none 0 0) := blk_cell A8.out 11
        have fa11 := blk_free A8.out 11
        go_region_held3 (fun w' => w'.cell? ⟨g6, 0, none⟩ = some (.int .i64 n0) ∧ w'.cell? ⟨b6, 0, none⟩ = some (.int .i64 n1) ∧ w'.cell? ⟨b6, 1, none⟩ = some (.int .i64 n2) ∧ w'.cell? ⟨b6, 2, none⟩ = some (.int .i64 n3) ∧ w'.cell? ⟨b6, 3, none⟩ = some (.string x4) ∧ w'.cell? ⟨b6, 4, none⟩ = some (.string x5) ∧ w'.cell? ⟨b6, 5, none⟩ = some (.int .i64 n4) ∧ w'.cell? ⟨b6, 6, none⟩ = some (.int .i64 n5) ∧ w'.cell? ⟨b6, 7, none⟩ = some (.string ⟨#[]⟩)) (first | go_keep | (simp [go_sem, *]; done)) (fail)
        go_wp2_with fail
        (try simp only [Exit.inBlock, Exit.then])
        refine bodyPost_ret (v := .tuple #[Stp.val ⟨1, n0, 0, ⟨n1, n2, n3, x4, x5, n4, n5, ⟨#[]⟩⟩, none, 0, 0⟩, .bool true]) ?_ rfl ⟨⟨⟨1, n0, 0, ⟨n1, n2, n3, x4, x5, n4, n5, ⟨#[]⟩⟩, none, 0, 0⟩, true, rfl, fun _ => ⟨n0, ⟨n1, n2, n3, x4, x5, n4, n5, ⟨#[]⟩⟩, ⟨_, _, _, _, _, _, _, rfl, SY.out.1, SY.out.2.1, SY.out.2.2.1, SY.out.2.2.2.1, SY.out.2.2.2.2.1, SY.out.2.2.2.2.2, rfl⟩, StepIs.none⟩⟩, ?_⟩
        · rw [res_cell_tmp rfl]
          go_simp
          rfl
        · refine Kept.drew ?_
          iterate 12 refine Kept.setAt (fun hl => absurd hl (LT.out _ (by omega))) ?_
          exact K8.out
      · have f1 : (x8.toList == [45]) = false := by simpa [ByteArray.toList_eq] using lit_ne hno
        go_wp2_with fail
        go_region_held3 (fun w' => w'.cell? ⟨g6, 0, none⟩ = some (.int .i64 n0) ∧ w'.cell? ⟨b6, 0, none⟩ = some (.int .i64 n1) ∧ w'.cell? ⟨b6, 1, none⟩ = some (.int .i64 n2) ∧ w'.cell? ⟨b6, 2, none⟩ = some (.int .i64 n3) ∧ w'.cell? ⟨b6, 3, none⟩ = some (.string x4) ∧ w'.cell? ⟨b6, 4, none⟩ = some (.string x5) ∧ w'.cell? ⟨b6, 5, none⟩ = some (.int .i64 n4) ∧ w'.cell? ⟨b6, 6, none⟩ = some (.int .i64 n5) ∧ w'.cell? ⟨b6, 7, none⟩ = some (.string x8)) (first | go_keep | (simp [go_sem, *]; done)) (fail)
        go_wp2_with fail
        (try simp only [Exit.inBlock, Exit.then])
        refine bodyPost_ret (v := .tuple #[Stp.val ⟨1, n0, 0, ⟨n1, n2, n3, x4, x5, n4, n5, x8⟩, none, 0, 0⟩, .bool true]) ?_ rfl ⟨⟨⟨1, n0, 0, ⟨n1, n2, n3, x4, x5, n4, n5, x8⟩, none, 0, 0⟩, true, rfl, fun _ => ⟨n0, ⟨n1, n2, n3, x4, x5, n4, n5, x8⟩, ⟨_, _, _, _, _, _, _, rfl, SY.out.1, SY.out.2.1, SY.out.2.2.1, SY.out.2.2.2.1, SY.out.2.2.2.2.1, SY.out.2.2.2.2.2, if_neg hno⟩, StepIs.none⟩⟩, ?_⟩
        · rw [res_cell_tmp rfl]
          go_simp
          rfl
        · refine Kept.drew ?_
          iterate 12 refine Kept.setAt (fun hl => absurd hl (LT.out _ (by omega))) ?_
          exact K7.out
  · have i1 : ((ws.length : Int) == 9) = false := by simp; omega
    have i2 : ((ws.length : Int) != 9) = true := by simp; omega
    clear R hs E
    go_enter Tryz.func39, Tryz.ntmps39
    go_wp2_with fail
    (try simp only [Exit.inBlock, Exit.then])
    refine bodyPost_ret (v := .tuple #[stpZ.val, .bool false]) ?_ rfl ⟨SpanT.no _, (Kept.refl _ w).alloc _⟩
    rw [res_cell_tmp rfl]
    go_simp
    rfl
end Go.Proofs.YtelhdbkkigehgaaGreatDoor

