/- (*Model).Spans of one span. -/
import Derived.Test.YtibakmchgppndaaTiny
namespace Go.Proofs.Ytibakmchgppndaa
open Go.RowKit Go.MapKept Go.Instr Go.ChangeMaps

theorem info_parts {P : Program} {t : TypeId} {z : Option Value} {s b : Nat} (h : (P.info? t).map (fun i => (i.zero, i.size, i.bytes)) = some (z, s, b)) : ∃ i, P.info? t = some i ∧ i.zero = z ∧ i.size = s ∧ i.bytes = b := by
  cases hi : P.info? t with
  | none => rw [hi] at h; simp at h
  | some i =>
    rw [hi] at h
    simp at h
    exact ⟨i, rfl, h.1, h.2.1, h.2.2⟩
theorem inf37 : (Try.prog.info? 37).map (fun i => (i.zero, i.size, i.bytes)) = some (some spanZ, 8, 88) := by kernel_rfl
def cells8 (e : ByteArray) : List Value := [.int .i64 3, .int .i64 1, .int .i64 0, .string ⟨#[97]⟩, .string ⟨#[104]⟩, .int .i64 10, .int .i64 0, .string e]
structure ModAt (w : World) (p b : Nat) (e : ByteArray) : Prop where
  cell : w.cell? ⟨p, 0, none⟩ = some (.map (some b))
  map : w.heap[b]? = some (.map #[⟨kV, spanV e, 0⟩] 1)
theorem ModAt.lt {w : World} {p b : Nat} {e : ByteArray} (h : ModAt w p b e) : b < w.heap.size := (Array.getElem?_eq_some_iff.1 h.map).1
theorem ModAt.kept {w w' : World} {p b : Nat} {e : ByteArray} (h : ModAt w p b e) (hK : Kept (fun _ => False) w w') : ModAt w' p b e :=
  ⟨hK.cell h.cell (fun f => f), (hK.block b h.lt (fun f => f)).trans h.map⟩

set_option maxHeartbeats 2000000 in
set_option maxRecDepth 100000 in
theorem spans_live {w : World} {p b : Nat} (t : Int) (h1 : 10 ≤ t) (h2 : t < 70) (h : ModAt w p b ⟨#[]⟩) :
    Calls Try.prog 10 #[.pointer (some ⟨p, 0, none⟩), .int .i64 t] w fun e w' => Kept (fun _ => False) w w' ∧ ∃ v, e = .returned v ∧ w'.ownsRow w.heap.size 37 8 v 1 (cells8 ⟨#[]⟩) := by
  obtain ⟨i0, hi0, hz0, hz1, hz2⟩ := info_parts inf37
  have N := Lib.hid (none_not p b w h.cell)
  have R := range1 h.map
  have E := Lib.hid (expired_any ⟨#[]⟩ t h1 (by omega))
  have hc := h.cell
  have HM := Lib.hid h.map
  have HL := Lib.hid h.lt
  have e70 : decide (70 ≤ t) = false := by simp; omega
  clear h
  go_enter Try.func10, Try.ntmps10
  go_wp2_with (go_at_call 28; refine N.out.mono ?_; rintro e w4 ⟨rfl, rfl⟩)
  clear R
  go_loopg [5] 1 (fun g s wr => (g = 1 ∧ s = .slice none 0 0 ∧ wr = w.alloc (.mapIter (some b) 1 #[] 1)) ∨ (g = 0 ∧ wr.heap[w.heap.size]? = some (.mapIter (some b) 1 #[0] 1) ∧ Kept (fun _ => False) w wr ∧ ∃ ao cap, s = .slice ao 1 cap ∧ wr.ownsRow w.heap.size 37 8 s 1 (cells8 ⟨#[]⟩)))
  case atStart => exact .inl ⟨rfl, rfl, rfl⟩
  case round =>
    rcases hrel with ⟨rfl, rfl, rfl⟩ | ⟨rfl, hr, kw, ao, cap, rfl, ho⟩
    · obtain ⟨W, hW⟩ : ∃ W, w.alloc (.mapIter (some b) 1 #[] 1) = W := ⟨_, rfl⟩
      have kW : Kept (fun _ => False) w W := by rw [← hW]; exact (Kept.refl _ w).alloc _
      have hr : W.heap[w.heap.size]? = some (.mapIter (some b) 1 #[] 1) := by rw [← hW]; exact heap_alloc_new w _
      have hb := (kW.block b HL.out (fun f => f)).trans HM.out
      have sW : W.heap.size = w.heap.size + 1 := by rw [← hW]; simp
      rw [hW]
      clear hW
      have n1 := mnext1 hb hr
      obtain ⟨W2, hW2⟩ : ∃ W2, setBlock W w.heap.size (.mapIter (some b) 1 #[0] 1) = W2 := ⟨_, rfl⟩
      rw [hW2] at n1
      have k2 : Kept (fun _ => False) w W2 := by rw [← hW2]; exact kept_setBlock kW (fun hh => absurd hh (Nat.lt_irrefl _)) _
      have hr2 : W2.heap[w.heap.size]? = some (.mapIter (some b) 1 #[0] 1) := by rw [← hW2]; simp [setBlock, sW]
      have hb2 := (k2.block b HL.out (fun f => f)).trans HM.out
      have n2 := entry1 hb2 hr2
      have K2 := Lib.hid k2
      have R2 := Lib.hid hr2
      unfold kV spanV at n1 n2
      clear hW2 k2 hr2 hb2 hb hr kW
      go_wp2_with fail
      refine (E.out _).mono ?_
      rw [e70]
      rintro e w4 ⟨rfl, k4⟩
      have k5 : Kept (fun _ => False) w w4 := (K2.out.alloc _).trans k4 (fun _ _ f => f) (fun _ _ f => f)
      have a0 : (W2.alloc (Obj.cells #[.int .i64 3, .int .i64 1, .int .i64 0, .string ⟨#[97]⟩, .string ⟨#[104]⟩, .int .i64 10, .int .i64 0, .string ⟨#[]⟩] 37)).heap[W2.heap.size]? = some (Obj.cells #[.int .i64 3, .int .i64 1, .int .i64 0, .string ⟨#[97]⟩, .string ⟨#[104]⟩, .int .i64 10, .int .i64 0, .string ⟨#[]⟩] 37) := heap_alloc_new W2 _
      have r4 : w4.heap[w.heap.size]? = some (.mapIter (some b) 1 #[0] 1) := by
        have s2 : w.heap.size < W2.heap.size := (Array.getElem?_eq_some_iff.1 R2.out).1
        rw [k4.block _ (by simp; omega) (fun f => f)]
        rw [((Kept.refl (fun _ => False) W2).alloc _).block _ s2 (fun f => f)]
        exact R2.out
      have c4 : ∀ j u, (cells8 ⟨#[]⟩)[j]? = some u → w4.cell? ⟨W2.heap.size, j, none⟩ = some u := by
        intro j u hj
        refine k4.cell ?_ (fun f => f)
        unfold cells8 at hj
        rcases j with _ | _ | _ | _ | _ | _ | _ | _ | j <;> simp at hj <;> subst hj <;> simp
      have q0 := c4 0 _ rfl
      have q1 := c4 1 _ rfl
      have q2 := c4 2 _ rfl
      have q3 := c4 3 _ rfl
      have q4 := c4 4 _ rfl
      have q5 := c4 5 _ rfl
      have q6 := c4 6 _ rfl
      have q7 := c4 7 _ rfl
      have K5 := Lib.hid k5; have R4 := Lib.hid r4
      have s4 := k5.size
      clear k4 k5 r4 c4 a0
      go_wp2_with (at_builtin; refine wpList_append_own _ rfl _ _ 27 rfl w.heap.size 37 i0 _ 8 88 Try.underlying27 hi0 hz0 hz1 hz2 rfl (by decide) _ _ _ rfl (World.ownsRow_nil _ _ _ _) ⟨w4.heap.size, 0, none⟩ 1 1 (cells8 ⟨#[]⟩) rfl rfl (World.news_of_block (heap_alloc_new w4 _)) ?qa ?qb ?qc ?qd ?_)
      case qa => intro u hu; simp [cells8] at hu; rcases hu with rfl | rfl | rfl | rfl | rfl | rfl | rfl | rfl <;> rfl
      case qb => unfold maxLen; omega
      case qc => omega
      case qd => simp; omega
      intro v' w5 hown hgrow hnil
      have K6 := Lib.hid ((K5.out.alloc (Obj.cells #[.int .i64 3, .int .i64 1, .int .i64 0, .string ⟨#[97]⟩, .string ⟨#[104]⟩, .int .i64 10, .int .i64 0, .string ⟨#[]⟩] 37)).grown hgrow (fun k hk hlt => by simp [Value.ownBlock] at hk))
      have R6 := Lib.hid (show w5.heap[w.heap.size]? = some (.mapIter (some b) 1 #[0] 1) from by
        have hl : w.heap.size < w4.heap.size := (Array.getElem?_eq_some_iff.1 R4.out).1
        rw [hgrow.block _ (by simp; omega) (by simp [Value.ownBlock]), ((Kept.refl (fun _ => False) w4).alloc _).block _ hl (fun f => f)]
        exact R4.out)
      have O6 := Lib.hid hown
      obtain ⟨ao, cap, rfl⟩ : ∃ a c, v' = .slice a 1 c := by
        rcases row_form hown with ⟨_, hn⟩ | ⟨g, c, h, _⟩
        · omega
        · exact ⟨_, c, h⟩
      clear hown hgrow hnil
      go_wp2
      go_roundg 0
      case measure => omega
      case rel => exact .inr ⟨rfl, R6.out, K6.out, ao, cap, rfl, by simpa using O6.out⟩
    · have hb := (kw.block b HL.out (fun f => f)).trans HM.out
      have n2 := mnext2 hb hr
      have K2 := Lib.hid kw; have O2 := Lib.hid ho
      clear hb hr kw ho
      go_wp2_with (go_at_call 30; refine (sort_any ao 1 cap _ (.inr rfl) _).mono ?_; rintro e w4 ⟨rfl, rfl⟩)
      go_ret
      exact ⟨K2.out, _, rfl, O2.out⟩

set_option maxHeartbeats 2000000 in
set_option maxRecDepth 100000 in
theorem spans_gone {w : World} {p b : Nat} (t : Int) (h1 : 70 ≤ t) (h2 : t ≤ 1000) (h : ModAt w p b ⟨#[]⟩) :
    Calls Try.prog 10 #[.pointer (some ⟨p, 0, none⟩), .int .i64 t] w fun e w' => Kept (fun _ => False) w w' ∧ e = .returned (.slice none 0 0) := by
  have N := Lib.hid (none_not p b w h.cell)
  have R := range1 h.map
  have E := Lib.hid (expired_any ⟨#[]⟩ t (by omega) (by omega))
  have hc := h.cell
  have HM := Lib.hid h.map
  have HL := Lib.hid h.lt
  have e70 : decide (70 ≤ t) = true := by simp; omega
  clear h
  go_enter Try.func10, Try.ntmps10
  go_wp2_with (go_at_call 28; refine N.out.mono ?_; rintro e w4 ⟨rfl, rfl⟩)
  clear R
  go_loopg [5] 1 (fun g s wr => (g = 1 ∧ s = .slice none 0 0 ∧ wr = w.alloc (.mapIter (some b) 1 #[] 1)) ∨ (g = 0 ∧ wr.heap[w.heap.size]? = some (.mapIter (some b) 1 #[0] 1) ∧ Kept (fun _ => False) w wr ∧ s = .slice none 0 0))
  case atStart => exact .inl ⟨rfl, rfl, rfl⟩
  case round =>
    rcases hrel with ⟨rfl, rfl, rfl⟩ | ⟨rfl, hr, kw, rfl⟩
    · obtain ⟨W, hW⟩ : ∃ W, w.alloc (.mapIter (some b) 1 #[] 1) = W := ⟨_, rfl⟩
      have kW : Kept (fun _ => False) w W := by rw [← hW]; exact (Kept.refl _ w).alloc _
      have hr : W.heap[w.heap.size]? = some (.mapIter (some b) 1 #[] 1) := by rw [← hW]; exact heap_alloc_new w _
      have hb := (kW.block b HL.out (fun f => f)).trans HM.out
      have sW : W.heap.size = w.heap.size + 1 := by rw [← hW]; simp
      rw [hW]
      clear hW
      have n1 := mnext1 hb hr
      obtain ⟨W2, hW2⟩ : ∃ W2, setBlock W w.heap.size (.mapIter (some b) 1 #[0] 1) = W2 := ⟨_, rfl⟩
      rw [hW2] at n1
      have k2 : Kept (fun _ => False) w W2 := by rw [← hW2]; exact kept_setBlock kW (fun hh => absurd hh (Nat.lt_irrefl _)) _
      have hr2 : W2.heap[w.heap.size]? = some (.mapIter (some b) 1 #[0] 1) := by rw [← hW2]; simp [setBlock, sW]
      have hb2 := (k2.block b HL.out (fun f => f)).trans HM.out
      have n2 := entry1 hb2 hr2
      have K2 := Lib.hid k2
      have R2 := Lib.hid hr2
      unfold kV spanV at n1 n2
      clear hW2 k2 hr2 hb2 hb hr kW
      go_wp2_with fail
      refine (E.out _).mono ?_
      rw [e70]
      rintro e w4 ⟨rfl, k4⟩
      have K5 := Lib.hid ((K2.out.alloc _).trans k4 (fun _ _ f => f) (fun _ _ f => f) : Kept (fun _ => False) w w4)
      have r4 : w4.heap[w.heap.size]? = some (.mapIter (some b) 1 #[0] 1) := by
        have s2 : w.heap.size < W2.heap.size := (Array.getElem?_eq_some_iff.1 R2.out).1
        rw [k4.block _ (by simp; omega) (fun f => f)]
        rw [((Kept.refl (fun _ => False) W2).alloc _).block _ s2 (fun f => f)]
        exact R2.out
      have R4 := Lib.hid r4
      clear k4 r4
      go_wp2
      go_roundg 0
      case measure => omega
      case rel => exact .inr ⟨rfl, R4.out, K5.out, rfl⟩
    · have hb := (kw.block b HL.out (fun f => f)).trans HM.out
      have n2 := mnext2 hb hr
      have K2 := Lib.hid kw
      clear hb hr kw
      go_wp2_with (go_at_call 30; refine (sort_any none 0 0 _ (.inl rfl) _).mono ?_; rintro e w4 ⟨rfl, rfl⟩)
      go_ret
      exact ⟨K2.out, rfl⟩
end Go.Proofs.Ytibakmchgppndaa
