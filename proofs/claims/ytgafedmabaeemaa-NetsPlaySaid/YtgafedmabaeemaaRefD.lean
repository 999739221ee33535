/- The walk over the reference's Double: three appends in one statement, stored where the list was read. -/
import Derived.Test.YtgafedmabaeemaaPlaces
import Derived.Test.YtgafedmabaeemaaLast
namespace Go.Proofs.Ytgafedmabaeemaa
open Go.RowKit

theorem wpOp_law {P : Program} {ops : Array Oper} {Q : Exit → Act → World → Prop} {i : Nat} {o : Oper} {K : Act → World → Prop} {a : Act} {w : World} (ho : ops[i]? = some o)
    (h : ∀ K' : Act → World → Prop, (∀ a w, K a w → K' a w) → if Region.wanted o (yielded ops a.tmps) = true then Oper.wp P o a w K' Q else K' (a.put o.dst undef) w) : wpOp P ops Q i K a w := by
  have h1 := h K (fun _ _ h => h)
  unfold wpOp
  simp only [ho]
  split
  · rename_i hw; rw [if_pos hw] at h1; exact .inl h1
  · rename_i hw; rw [if_neg hw] at h1; exact h1

theorem next1 {P : Program} {ops : Array Oper} {Q : Exit → Act → World → Prop} {md : Region.Mode} {S : World → Prop} {f fuel : Nat} {listed : Array Bool} {a : Act} {w : World} (i : Nat) {o : Oper} (hr : Region.ready md ops listed = [i]) (ho : ops[i]? = some o)
    (h : ∀ K' : Act → World → Prop, (∀ a' w', ((i ≠ f → S w') ∧ wpAnyF P md ops Q S f fuel (listed.setIfInBounds i true) a' w') → K' a' w') → if Region.wanted o (yielded ops a.tmps) = true then Oper.wp P o a w K' Q else K' (a.put o.dst undef) w) : wpAnyF P md ops Q S f (fuel + 1) listed a w :=
  wpAnyF_next hr (by simp) fun j hj => by
    rw [List.mem_singleton] at hj; subst hj; exact wpOp_law ho h
theorem next2 {P : Program} {ops : Array Oper} {Q : Exit → Act → World → Prop} {md : Region.Mode} {S : World → Prop} {f fuel : Nat} {listed : Array Bool} {a : Act} {w : World} (i k : Nat) {o o2 : Oper} (hr : Region.ready md ops listed = [i, k]) (ho : ops[i]? = some o) (ho2 : ops[k]? = some o2)
    (h : ∀ K' : Act → World → Prop, (∀ a' w', ((i ≠ f → S w') ∧ wpAnyF P md ops Q S f fuel (listed.setIfInBounds i true) a' w') → K' a' w') → if Region.wanted o (yielded ops a.tmps) = true then Oper.wp P o a w K' Q else K' (a.put o.dst undef) w)
    (h2 : ∀ K' : Act → World → Prop, (∀ a' w', ((k ≠ f → S w') ∧ wpAnyF P md ops Q S f fuel (listed.setIfInBounds k true) a' w') → K' a' w') → if Region.wanted o2 (yielded ops a.tmps) = true then Oper.wp P o2 a w K' Q else K' (a.put o2.dst undef) w) : wpAnyF P md ops Q S f (fuel + 1) listed a w :=
  wpAnyF_next hr (by simp) fun j hj => by
    simp only [List.mem_cons, List.not_mem_nil, or_false] at hj
    rcases hj with rfl | rfl
    · exact wpOp_law ho h
    · exact wpOp_law ho2 h2

theorem heap_first (w : World) (o1 o2 : Obj) : ((w.alloc o1).alloc o2).heap[w.heap.size]? = some o1 := by
  have e : ((w.alloc o1).alloc o2).heap = (w.heap.push o1).push o2 := rfl
  rw [e]; simp [Array.getElem?_push]
theorem made_at {w : World} {base : Nat} (q : Nat) (hq : q = w.heap.size) (hb : base ≤ w.heap.size) : (w.alloc (.cells #[] 31)).ownsRow base 31 3 (.slice (some ⟨q, 0, none⟩) 0 0) 0 [] := by
  subst hq; exact World.ownsRow_made _ #[] 0 hb (by unfold maxLen; omega) (by rfl)

/-- 's[n:]' of a row with a block. -/
theorem slice_from_ad (g n len cap : Nat) (z : Int) (hz : z = (n : Int)) (h1 : n ≤ len) (h2 : len ≤ cap) : ∃ X : Addr, (n < len → X = ⟨g, n * 3, none⟩) ∧
    ∀ w, (Instr.slice 27 (.slice (some ⟨g, 0, none⟩) len cap) (some (.int .i64 z)) none none).run Try.prog w = .ok (.slice (some X) (len - n) (cap - n)) w := by
  subst hz
  have i1 : (0 : Int) ≤ (n : Int) := by omega
  have i2 : (n : Int) ≤ (len : Int) := by omega
  by_cases hc : cap = n
  · have hl : len = n := by omega
    subst hl; subst hc
    exact ⟨⟨g, 0, none⟩, fun h => by omega, fun w => by simp [go_sem]⟩
  · exact ⟨⟨g, n * 3, none⟩, fun _ => rfl, fun w => by simp [go_sem, hc, i1, i2]⟩

set_option maxRecDepth 100000 in
set_option maxHeartbeats 8000000 in
theorem rdouble_room (w : World) (base r : Nat) (v : Value) (L : List Mail) (i : Nat) (m : Mail) (h : RefOk w base r v L) (hm : L[i]? = some m) (hl : L.length < 64) (hb : base ≤ w.heap.size) :
    Calls Try.prog 24 #[.pointer (some ⟨r, 0, none⟩), .int .i64 i] w fun e w' => e = .returned (.bool true) ∧ RefNow w w' base r v (insL L (i + 1) m) := by
  obtain ⟨i0, hi0, hz0, hz1, hz2⟩ := info_parts Try.info31
  have hi := lt_of_get hm
  have hr := h.read
  have hlt := h.lt
  have hfz := h.frozen 0
  rcases row_form h.row with ⟨rfl, hn⟩ | ⟨g, cap, rfl, hc, hbg, hg, hcell⟩
  · omega
  · obtain ⟨q0, q1, q2⟩ := cellsL_get L i m hm
    have c0 := hcell _ _ q0
    have c1 := hcell _ _ q1
    have c2 := hcell _ _ q2
    have HC := Lib.hid hcell
    have H := Lib.hid h
    clear h hm q0 q1 q2 hcell
    have w2' : IntKind.i64.wrap ((i : Int) + 1) = (i : Int) + 1 := IntWalk.i64_in _ (by omega)
    have t1 : ((i : Int) + 1).toNat = i + 1 := by omega
    have i1 : (0 : Int) ≤ (i : Int) := by omega
    have i2 : (i : Int) < (L.length : Int) := by omega
    have i3 : (i : Int) + 1 ≤ (cap : Int) := by omega
    have i4 : (i : Int) + 1 ≤ (L.length : Int) := by omega
    have i5 : (0 : Int) ≤ (i : Int) + 1 := by omega
    have i6 : (L.length : Int) ≤ (cap : Int) := by omega
    have hd : decide ((64 : Int) ≤ (L.length : Int)) = false := by rw [decide_eq_false_iff_not]; omega
    obtain ⟨XB, hXB, hrB⟩ := slice_from_ad g (i + 1) L.length cap ((i : Int) + 1) (by omega) (by omega) hc
    have XB' := Lib.hid hXB; clear hXB
    have sS : ∀ W, Kept (fun _ => False) w W → W.cell? ⟨r, 0, none⟩ = some (.slice (some ⟨g, 0, none⟩) L.length cap) ∧ W.cell? ⟨g, i * 3, none⟩ = some (.int .i64 m.f) ∧ W.cell? ⟨g, i * 3 + 1, none⟩ = some (.int .i64 m.t) ∧ W.cell? ⟨g, i * 3 + 2, none⟩ = some (.string m.d) :=
      fun W k => ⟨k.cell hr (fun f => f), k.cell c0 (fun f => f), k.cell c1 (fun f => f), k.cell c2 (fun f => f)⟩
    have SS := Lib.hid sS; clear sS
    have FIN : ∀ {ao3 : Option Addr} {cap3 : Nat} {w4 : World}, Kept (fun _ => False) w w4 → w4.ownsRow base 31 3 (.slice ao3 (i + 1 + 1 + (L.length - (i + 1))) cap3) (i + 1 + 1 + (L.length - (i + 1))) (cellsL (L.take (i + 1)) ++ [.int .i64 m.f, .int .i64 m.t, .string m.d] ++ cellsL (L.drop (i + 1))) → (∀ k, (Value.slice ao3 (i + 1 + 1 + (L.length - (i + 1))) cap3).ownBlock = some k → w.heap.size ≤ k) →
        RefNow w (w4.setCell ⟨r, 0, none⟩ (.slice ao3 (i + 1 + 1 + (L.length - (i + 1))) cap3)) base r (.slice (some ⟨g, 0, none⟩) L.length cap) (insL L (i + 1) m) := by
      intro ao3 cap3 w4 K4 hown4 nb3
      have e0 : (insL L (i + 1) m).length = i + 1 + 1 + (L.length - (i + 1)) := by unfold insL; simp; omega
      refine rstore (L := insL L (i + 1) m) (T := fun _ => False) H.out K4 (fun _ _ f => f.elim) ?_ (fun k hk => .inr (nb3 k hk)) (by rw [e0]; omega)
      have e1 : cellsL (insL L (i + 1) m) = cellsL (L.take (i + 1)) ++ [.int .i64 m.f, .int .i64 m.t, .string m.d] ++ cellsL (L.drop (i + 1)) := by
        unfold insL; simp only [cellsL_append]; simp [cellsL]
      rw [e0, e1]; exact hown4
    go_enter Try.func24, Try.ntmps24
    go_wp2_with (go_at_call 29; refine (is_yes _ base r _ L i H.out hi).mono ?_; rintro e w' ⟨rfl, rfl⟩)
    refine wp_region_last 29 (fun w' => w'.cell? ⟨r, 0, none⟩ = some (.slice (some ⟨g, 0, none⟩) L.length cap) ∧ w'.cell? ⟨g, i * 3, none⟩ = some (.int .i64 m.f) ∧ w'.cell? ⟨g, i * 3 + 1, none⟩ = some (.int .i64 m.t) ∧ w'.cell? ⟨g, i * 3 + 2, none⟩ = some (.string m.d)) (by kernel_rfl) ?_
    have k0 := (Kept.refl (fun _ => False) w).drew
    have hHeld := SS.out _ k0
    refine wpAnyF_take (i := 0) (v := ?_) rfl (by kernel_rfl) (by kernel_rfl) (by kernel_rfl) (by kernel_rfl) (by decide) (fun _ _ _ h => h) (Or.inl ⟨by rfl, ?_⟩) hHeld ?_
    case refine_2 => (intro w hSw; (try dsimp only at hSw); go_simp; all_goals (with_reducible rfl))
    (try simp only [Act.put]); (try simp only [List.setIfInBounds_toArray]); (try simp only [List.set_cons_succ]); (try simp only [List.set_cons_zero])
    refine wpAnyF_take (i := 2) (v := ?_) rfl (by kernel_rfl) (by kernel_rfl) (by kernel_rfl) (by kernel_rfl) (by decide) (fun _ _ _ h => h) (Or.inl ⟨by rfl, ?_⟩) hHeld ?_
    case refine_2 => (intro w hSw; (try dsimp only at hSw); go_simp; all_goals (with_reducible rfl))
    (try simp only [Act.put]); (try simp only [List.setIfInBounds_toArray]); (try simp only [List.set_cons_succ]); (try simp only [List.set_cons_zero])
    refine wpAnyF_take (i := 3) (v := ?_) rfl (by kernel_rfl) (by kernel_rfl) (by kernel_rfl) (by kernel_rfl) (by decide) (fun _ _ _ h => h) (Or.inl ⟨by rfl, ?_⟩) hHeld ?_
    case refine_2 => (intro w hSw; (try dsimp only at hSw); go_simp; all_goals (with_reducible rfl))
    (try simp only [Act.put]); (try simp only [List.setIfInBounds_toArray]); (try simp only [List.set_cons_succ]); (try simp only [List.set_cons_zero])
    refine wpAnyF_take (i := 4) (v := ?_) rfl (by kernel_rfl) (by kernel_rfl) (by kernel_rfl) (by kernel_rfl) (by decide) (fun _ _ _ h => h) (Or.inl ⟨by rfl, ?_⟩) hHeld ?_
    case refine_2 => (intro w hSw; (try dsimp only at hSw); go_simp; all_goals (with_reducible rfl))
    (try simp only [Act.put]); (try simp only [List.setIfInBounds_toArray]); (try simp only [List.set_cons_succ]); (try simp only [List.set_cons_zero])
    refine wpAnyF_take (i := 5) (v := ?_) rfl (by kernel_rfl) (by kernel_rfl) (by kernel_rfl) (by kernel_rfl) (by decide) (fun _ _ _ h => h) (Or.inl ⟨by rfl, ?_⟩) hHeld ?_
    case refine_2 => (intro w hSw; (try dsimp only at hSw); go_simp; all_goals (with_reducible rfl))
    (try simp only [Act.put]); (try simp only [List.setIfInBounds_toArray]); (try simp only [List.set_cons_succ]); (try simp only [List.set_cons_zero])
    refine wpAnyF_take (i := 6) (v := ?_) rfl (by kernel_rfl) (by kernel_rfl) (by kernel_rfl) (by kernel_rfl) (by decide) (fun _ _ _ h => h) (Or.inl ⟨by rfl, ?_⟩) hHeld ?_
    case refine_2 => (intro w hSw; (try dsimp only at hSw); go_simp; all_goals (with_reducible rfl))
    (try simp only [Act.put]); (try simp only [List.setIfInBounds_toArray]); (try simp only [List.set_cons_succ]); (try simp only [List.set_cons_zero])
    refine wpAnyF_take (i := 7) (v := ?_) rfl (by kernel_rfl) (by kernel_rfl) (by kernel_rfl) (by kernel_rfl) (by decide) (fun _ _ _ h => h) (Or.inl ⟨by rfl, ?_⟩) hHeld ?_
    case refine_2 => (intro w hSw; (try dsimp only at hSw); go_simp; all_goals (with_reducible rfl))
    (try simp only [Act.put]); (try simp only [List.setIfInBounds_toArray]); (try simp only [List.set_cons_succ]); (try simp only [List.set_cons_zero])
    refine wpAnyF_take (i := 8) (v := ?_) rfl (by kernel_rfl) (by kernel_rfl) (by kernel_rfl) (by kernel_rfl) (by decide) (fun _ _ _ h => h) (Or.inl ⟨by rfl, ?_⟩) hHeld ?_
    case refine_2 => (intro w hSw; (try dsimp only at hSw); go_simp; all_goals (with_reducible rfl))
    (try simp only [Act.put]); (try simp only [List.setIfInBounds_toArray]); (try simp only [List.set_cons_succ]); (try simp only [List.set_cons_zero])
    refine wpAnyF_take (i := 10) (v := ?_) rfl (by kernel_rfl) (by kernel_rfl) (by kernel_rfl) (by kernel_rfl) (by decide) (fun _ _ _ h => h) (Or.inl ⟨by rfl, ?_⟩) hHeld ?_
    case refine_2 => (intro w hSw; (try dsimp only at hSw); go_simp; all_goals (with_reducible rfl))
    (try simp only [Act.put]); (try simp only [List.setIfInBounds_toArray]); (try simp only [List.set_cons_succ]); (try simp only [List.set_cons_zero])
    refine wpAnyF_take (i := 11) (v := ?_) rfl (by kernel_rfl) (by kernel_rfl) (by kernel_rfl) (by kernel_rfl) (by decide) (fun _ _ _ h => h) (Or.inl ⟨by rfl, ?_⟩) hHeld ?_
    case refine_2 => (intro w hSw; (try dsimp only at hSw); go_simp; all_goals (with_reducible rfl))
    (try simp only [Act.put]); (try simp only [List.setIfInBounds_toArray]); (try simp only [List.set_cons_succ]); (try simp only [List.set_cons_zero])
    refine wpAnyF_take (i := 12) (v := ?_) rfl (by kernel_rfl) (by kernel_rfl) (by kernel_rfl) (by kernel_rfl) (by decide) (fun _ _ _ h => h) (Or.inl ⟨by rfl, ?_⟩) hHeld ?_
    case refine_2 => (intro w hSw; (try dsimp only at hSw); go_simp; all_goals (with_reducible rfl))
    (try simp only [Act.put]); (try simp only [List.setIfInBounds_toArray]); (try simp only [List.set_cons_succ]); (try simp only [List.set_cons_zero])
    refine wpAnyF_take (i := 13) (v := ?_) rfl (by kernel_rfl) (by kernel_rfl) (by kernel_rfl) (by kernel_rfl) (by decide) (fun _ _ _ h => h) (Or.inl ⟨by rfl, ?_⟩) hHeld ?_
    case refine_2 => (intro w hSw; (try dsimp only at hSw); go_simp; all_goals (with_reducible rfl))
    (try simp only [Act.put]); (try simp only [List.setIfInBounds_toArray]); (try simp only [List.set_cons_succ]); (try simp only [List.set_cons_zero])
    refine wpAnyF_take (i := 14) (v := ?_) rfl (by kernel_rfl) (by kernel_rfl) (by kernel_rfl) (by kernel_rfl) (by decide) (fun _ _ _ h => h) (Or.inl ⟨by rfl, ?_⟩) hHeld ?_
    case refine_2 => (intro w hSw; (try dsimp only at hSw); go_simp; all_goals (with_reducible rfl))
    (try simp only [Act.put]); (try simp only [List.setIfInBounds_toArray]); (try simp only [List.set_cons_succ]); (try simp only [List.set_cons_zero])
    refine wpAnyF_take (i := 15) (v := ?_) rfl (by kernel_rfl) (by kernel_rfl) (by kernel_rfl) (by kernel_rfl) (by decide) (fun _ _ _ h => h) (Or.inl ⟨by rfl, ?_⟩) hHeld ?_
    case refine_2 => (intro w hSw; (try dsimp only at hSw); go_simp; all_goals (with_reducible rfl))
    (try simp only [Act.put]); (try simp only [List.setIfInBounds_toArray]); (try simp only [List.set_cons_succ]); (try simp only [List.set_cons_zero])
    refine wpAnyF_take (i := 16) (v := ?_) rfl (by kernel_rfl) (by kernel_rfl) (by kernel_rfl) (by kernel_rfl) (by decide) (fun _ _ _ h => h) (Or.inl ⟨by rfl, ?_⟩) hHeld ?_
    case refine_2 => (intro w hSw; (try dsimp only at hSw); go_simp; all_goals (with_reducible rfl))
    (try simp only [Act.put]); (try simp only [List.setIfInBounds_toArray]); (try simp only [List.set_cons_succ]); (try simp only [List.set_cons_zero])
    refine wpAnyF_take (i := 19) (v := ?_) rfl (by kernel_rfl) (by kernel_rfl) (by kernel_rfl) (by kernel_rfl) (by decide) (fun _ _ _ h => h) (Or.inl ⟨by rfl, ?_⟩) hHeld ?_
    case refine_2 => (intro w hSw; (try dsimp only at hSw); go_simp; all_goals (with_reducible rfl))
    (try simp only [Act.put]); (try simp only [List.setIfInBounds_toArray]); (try simp only [List.set_cons_succ]); (try simp only [List.set_cons_zero])
    refine wpAnyF_take (i := 20) (v := ?_) rfl (by kernel_rfl) (by kernel_rfl) (by kernel_rfl) (by kernel_rfl) (by decide) (fun _ _ _ h => h) (Or.inl ⟨by rfl, ?_⟩) hHeld ?_
    case refine_2 => (intro w hSw; (try dsimp only at hSw); go_simp; all_goals (with_reducible rfl))
    (try simp only [Act.put]); (try simp only [List.setIfInBounds_toArray]); (try simp only [List.set_cons_succ]); (try simp only [List.set_cons_zero])
    refine wpAnyF_take (i := 21) (v := ?_) rfl (by kernel_rfl) (by kernel_rfl) (by kernel_rfl) (by kernel_rfl) (by decide) (fun _ _ _ h => h) (Or.inl ⟨by rfl, ?_⟩) hHeld ?_
    case refine_2 => (intro w hSw; (try dsimp only at hSw); go_simp; all_goals (with_reducible rfl))
    (try simp only [Act.put]); (try simp only [List.setIfInBounds_toArray]); (try simp only [List.set_cons_succ]); (try simp only [List.set_cons_zero])
    refine wpAnyF_take (i := 22) (v := ?_) rfl (by kernel_rfl) (by kernel_rfl) (by kernel_rfl) (by kernel_rfl) (by decide) (fun _ _ _ h => h) (Or.inl ⟨by rfl, ?_⟩) hHeld ?_
    case refine_2 => (intro w hSw; (try dsimp only at hSw); go_simp; all_goals (with_reducible rfl))
    (try simp only [Act.put]); (try simp only [List.setIfInBounds_toArray]); (try simp only [List.set_cons_succ]); (try simp only [List.set_cons_zero])
    refine wpAnyF_take (i := 23) (v := ?_) rfl (by kernel_rfl) (by kernel_rfl) (by kernel_rfl) (by kernel_rfl) (by decide) (fun _ _ _ h => h) (Or.inl ⟨by rfl, ?_⟩) hHeld ?_
    case refine_2 => (intro w hSw; (try dsimp only at hSw); go_simp; all_goals (with_reducible rfl))
    (try simp only [Act.put]); (try simp only [List.setIfInBounds_toArray]); (try simp only [List.set_cons_succ]); (try simp only [List.set_cons_zero])
    refine wpAnyF_take (i := 24) (v := ?_) rfl (by kernel_rfl) (by kernel_rfl) (by kernel_rfl) (by kernel_rfl) (by decide) (fun _ _ _ h => h) (Or.inl ⟨by rfl, ?_⟩) hHeld ?_
    case refine_2 => (intro w hSw; (try dsimp only at hSw); go_simp; all_goals (with_reducible rfl))
    (try simp only [Act.put]); (try simp only [List.setIfInBounds_toArray]); (try simp only [List.set_cons_succ]); (try simp only [List.set_cons_zero])
    refine wpAnyF_take (i := 25) (v := ?_) rfl (by kernel_rfl) (by kernel_rfl) (by kernel_rfl) (by kernel_rfl) (by decide) (fun _ _ _ h => h) (Or.inl ⟨by rfl, ?_⟩) hHeld ?_
    case refine_2 => (intro w hSw; (try dsimp only at hSw); go_simp; all_goals (with_reducible rfl))
    (try simp only [Act.put]); (try simp only [List.setIfInBounds_toArray]); (try simp only [List.set_cons_succ]); (try simp only [List.set_cons_zero])
    refine next2 1 17 (by kernel_rfl) rfl rfl (fun K' hK => ?_) (fun K' hK => ?_)
    · skip
      go_simp
      refine hK _ _ ⟨fun _ => SS.out _ (k0.alloc _), ?_⟩; clear hK K'
      (try simp only [Act.put]); (try simp only [List.setIfInBounds_toArray]); (try simp only [List.set_cons_succ]); (try simp only [List.set_cons_zero])
      have k1 := k0.alloc (Obj.cells #[] 31)
      refine next2 9 17 (by kernel_rfl) rfl rfl (fun K' hK => ?_) (fun K' hK => ?_)
      · skip
        refine step_app (by rfl) _ _ 27 (by rfl) base 31 i0 _ 3 32 Try.underlying27 hi0 hz0 hz1 hz2 (by rfl) (by decide) _ 0 [] (by rfl) (World.ownsRow_made _ #[] 0 hb (by unfold maxLen; omega) (by rfl)) ⟨g, 0, none⟩ (i + 1) _ (cellsL (L.take (i + 1))) (by rfl) ?_ ?_ ?_ ?_ ?_ ?_ ?_
        · rw [cellsL_length, List.length_take, Nat.min_eq_left (by omega)]
        · exact src_take (S := fun _ => False) HC.out _ (k0.alloc _) (fun f => f)
        · exact cellsL_one _
        · unfold maxLen; omega
        · omega
        · exact Nat.le_trans hb ((k0.alloc _)).size
        intro ao1 cap1 w2 hown2 hgr1 hat1
        rw [Nat.zero_add, List.nil_append] at hown2
        rw [Nat.zero_add] at hat1 ⊢
        have K2 : Kept (fun _ => False) w w2 := ((k0.alloc _)).grown hgr1 (fun k hk hlt' => by have e := Option.some.inj hk; simp at e; omega)
        have nb1 : ∀ k, (Value.slice ao1 (i + 1) cap1).ownBlock = some k → w.heap.size ≤ k := fun k hk => own_ge hat1 (fun k hk => by have e := Option.some.inj hk; simp at e; omega) ((k0.alloc _)).size hk
        refine hK _ _ ⟨fun _ => SS.out _ K2, ?_⟩; clear hK K'
        (try simp only [Act.put]); (try simp only [List.setIfInBounds_toArray]); (try simp only [List.set_cons_succ]); (try simp only [List.set_cons_zero])
        refine next1 17 (by kernel_rfl) rfl fun K' hK => ?_
        go_simp
        refine hK _ _ ⟨fun _ => SS.out _ (K2.alloc _), ?_⟩; clear hK K'
        (try simp only [Act.put]); (try simp only [List.setIfInBounds_toArray]); (try simp only [List.set_cons_succ]); (try simp only [List.set_cons_zero])
        refine next1 18 (by kernel_rfl) rfl fun K' hK => ?_
        refine step_app (by rfl) _ _ 27 (by rfl) base 31 i0 _ 3 32 Try.underlying27 hi0 hz0 hz1 hz2 (by rfl) (by decide) _ (i + 1) _ (by rfl) (hown2.alloc _) ⟨_, 0, none⟩ 1 1 [.int .i64 m.f, .int .i64 m.t, .string m.d] (by rfl) (by rfl) ?_ ?_ ?_ ?_ ?_ ?_
        · exact World.news_of_block (heap_alloc_new _ _)
        · exact mail_one m
        · unfold maxLen; omega
        · omega
        · exact Nat.le_trans hb ((K2.alloc _)).size
        intro ao2 cap2 w3 hown3 hgr2 hat2
        have K3 : Kept (fun _ => False) w w3 := ((K2.alloc _)).grown hgr2 (fun k hk hlt' => absurd (nb1 k hk) (by omega))
        have nb2 : ∀ k, (Value.slice ao2 (i + 1 + 1) cap2).ownBlock = some k → w.heap.size ≤ k := fun k hk => own_ge hat2 nb1 ((K2.alloc _)).size hk
        refine hK _ _ ⟨fun _ => SS.out _ K3, ?_⟩; clear hK K'
        (try simp only [Act.put]); (try simp only [List.setIfInBounds_toArray]); (try simp only [List.set_cons_succ]); (try simp only [List.set_cons_zero])
        refine next1 26 (by kernel_rfl) rfl fun K' hK => ?_
        refine step_app (by rfl) _ _ 27 (by rfl) base 31 i0 _ 3 32 Try.underlying27 hi0 hz0 hz1 hz2 (by rfl) (by decide) _ (i + 1 + 1) _ (by rfl) hown3 XB (L.length - (i + 1)) _ (cellsL (L.drop (i + 1))) (by rfl) ?_ ?_ ?_ ?_ ?_ ?_ ?_
        · rw [cellsL_length, List.length_drop]
        · intro j u hu
          have hj : i + 1 < L.length := Nat.lt_of_not_le fun hge => by rw [List.drop_eq_nil_of_le hge] at hu; cases hu
          rw [XB'.out hj]
          exact src_drop HC.out _ K3 (fun f => f) j u hu
        · exact cellsL_one _
        · unfold maxLen; omega
        · omega
        · exact Nat.le_trans hb K3.size
        intro ao3 cap3 w4 hown4 hgr3 hat3
        have K4 : Kept (fun _ => False) w w4 := K3.grown hgr3 (fun k hk hlt' => absurd (nb2 k hk) (by omega))
        have nb3 : ∀ k, (Value.slice ao3 (i + 1 + 1 + (L.length - (i + 1))) cap3).ownBlock = some k → w.heap.size ≤ k := fun k hk => own_ge hat3 nb2 K3.size hk
        have t0 := K4.cell hr (fun f => f)
        have tf := K4.frozen hfz hlt (fun f => f)
        refine hK _ _ ⟨fun _ => SS.out _ K4, ?_⟩; clear hK K'
        (try simp only [Act.put]); (try simp only [List.setIfInBounds_toArray]); (try simp only [List.set_cons_succ]); (try simp only [List.set_cons_zero])
        refine next1 27 (by kernel_rfl) rfl fun K' hK => ?_
        go_simp
        refine hK _ _ ⟨fun _ => SS.out _ K4, ?_⟩; clear hK K'
        (try simp only [Act.put]); (try simp only [List.setIfInBounds_toArray]); (try simp only [List.set_cons_succ]); (try simp only [List.set_cons_zero])
        refine next1 28 (by kernel_rfl) rfl fun K' hK => ?_
        go_simp
        refine hK _ _ ⟨fun _ => SS.out _ K4, ?_⟩; clear hK K'
        (try simp only [Act.put]); (try simp only [List.setIfInBounds_toArray]); (try simp only [List.set_cons_succ]); (try simp only [List.set_cons_zero])
        refine next1 29 (by kernel_rfl) rfl fun K' hK => ?_
        go_simp
        refine hK _ _ ⟨fun e => absurd rfl e, wpAnyF_done (by kernel_rfl) ?_ _⟩; clear hK K'
        go_wp2
        go_ret
        exact ⟨rfl, FIN K4 hown4 nb3⟩
      · skip
        go_simp
        refine hK _ _ ⟨fun _ => SS.out _ ((k0.alloc _).alloc _), ?_⟩; clear hK K'
        (try simp only [Act.put]); (try simp only [List.setIfInBounds_toArray]); (try simp only [List.set_cons_succ]); (try simp only [List.set_cons_zero])
        refine next1 9 (by kernel_rfl) rfl fun K' hK => ?_
        refine step_app (by rfl) _ _ 27 (by rfl) base 31 i0 _ 3 32 Try.underlying27 hi0 hz0 hz1 hz2 (by rfl) (by decide) _ 0 [] (by rfl) ((World.ownsRow_made _ #[] 0 hb (by unfold maxLen; omega) (by rfl)).alloc _) ⟨g, 0, none⟩ (i + 1) _ (cellsL (L.take (i + 1))) (by rfl) ?_ ?_ ?_ ?_ ?_ ?_ ?_
        · rw [cellsL_length, List.length_take, Nat.min_eq_left (by omega)]
        · exact src_take (S := fun _ => False) HC.out _ ((k0.alloc _).alloc _) (fun f => f)
        · exact cellsL_one _
        · unfold maxLen; omega
        · omega
        · exact Nat.le_trans hb (((k0.alloc _).alloc _)).size
        intro ao1 cap1 w2 hown2 hgr1 hat1
        rw [Nat.zero_add, List.nil_append] at hown2
        rw [Nat.zero_add] at hat1 ⊢
        have K2 : Kept (fun _ => False) w w2 := (((k0.alloc _).alloc _)).grown hgr1 (fun k hk hlt' => by have e := Option.some.inj hk; simp at e; omega)
        have nb1 : ∀ k, (Value.slice ao1 (i + 1) cap1).ownBlock = some k → w.heap.size ≤ k := fun k hk => own_ge hat1 (fun k hk => by have e := Option.some.inj hk; simp at e; omega) (((k0.alloc _).alloc _)).size hk
        refine hK _ _ ⟨fun _ => SS.out _ K2, ?_⟩; clear hK K'
        (try simp only [Act.put]); (try simp only [List.setIfInBounds_toArray]); (try simp only [List.set_cons_succ]); (try simp only [List.set_cons_zero])
        refine next1 18 (by kernel_rfl) rfl fun K' hK => ?_
        refine step_app (by rfl) _ _ 27 (by rfl) base 31 i0 _ 3 32 Try.underlying27 hi0 hz0 hz1 hz2 (by rfl) (by decide) _ (i + 1) _ (by rfl) (hown2) ⟨_, 0, none⟩ 1 1 [.int .i64 m.f, .int .i64 m.t, .string m.d] (by rfl) (by rfl) ?_ ?_ ?_ ?_ ?_ ?_
        · exact fun j u hu => (grown_kept hgr1).cell (World.news_of_block (heap_second _ _ _) j u hu) (fun e => by have e2 := Option.some.inj e; simp [add_mid] at e2)
        · exact mail_one m
        · unfold maxLen; omega
        · omega
        · exact Nat.le_trans hb (K2).size
        intro ao2 cap2 w3 hown3 hgr2 hat2
        have K3 : Kept (fun _ => False) w w3 := (K2).grown hgr2 (fun k hk hlt' => absurd (nb1 k hk) (by omega))
        have nb2 : ∀ k, (Value.slice ao2 (i + 1 + 1) cap2).ownBlock = some k → w.heap.size ≤ k := fun k hk => own_ge hat2 nb1 (K2).size hk
        refine hK _ _ ⟨fun _ => SS.out _ K3, ?_⟩; clear hK K'
        (try simp only [Act.put]); (try simp only [List.setIfInBounds_toArray]); (try simp only [List.set_cons_succ]); (try simp only [List.set_cons_zero])
        refine next1 26 (by kernel_rfl) rfl fun K' hK => ?_
        refine step_app (by rfl) _ _ 27 (by rfl) base 31 i0 _ 3 32 Try.underlying27 hi0 hz0 hz1 hz2 (by rfl) (by decide) _ (i + 1 + 1) _ (by rfl) hown3 XB (L.length - (i + 1)) _ (cellsL (L.drop (i + 1))) (by rfl) ?_ ?_ ?_ ?_ ?_ ?_ ?_
        · rw [cellsL_length, List.length_drop]
        · intro j u hu
          have hj : i + 1 < L.length := Nat.lt_of_not_le fun hge => by rw [List.drop_eq_nil_of_le hge] at hu; cases hu
          rw [XB'.out hj]
          exact src_drop HC.out _ K3 (fun f => f) j u hu
        · exact cellsL_one _
        · unfold maxLen; omega
        · omega
        · exact Nat.le_trans hb K3.size
        intro ao3 cap3 w4 hown4 hgr3 hat3
        have K4 : Kept (fun _ => False) w w4 := K3.grown hgr3 (fun k hk hlt' => absurd (nb2 k hk) (by omega))
        have nb3 : ∀ k, (Value.slice ao3 (i + 1 + 1 + (L.length - (i + 1))) cap3).ownBlock = some k → w.heap.size ≤ k := fun k hk => own_ge hat3 nb2 K3.size hk
        have t0 := K4.cell hr (fun f => f)
        have tf := K4.frozen hfz hlt (fun f => f)
        refine hK _ _ ⟨fun _ => SS.out _ K4, ?_⟩; clear hK K'
        (try simp only [Act.put]); (try simp only [List.setIfInBounds_toArray]); (try simp only [List.set_cons_succ]); (try simp only [List.set_cons_zero])
        refine next1 27 (by kernel_rfl) rfl fun K' hK => ?_
        go_simp
        refine hK _ _ ⟨fun _ => SS.out _ K4, ?_⟩; clear hK K'
        (try simp only [Act.put]); (try simp only [List.setIfInBounds_toArray]); (try simp only [List.set_cons_succ]); (try simp only [List.set_cons_zero])
        refine next1 28 (by kernel_rfl) rfl fun K' hK => ?_
        go_simp
        refine hK _ _ ⟨fun _ => SS.out _ K4, ?_⟩; clear hK K'
        (try simp only [Act.put]); (try simp only [List.setIfInBounds_toArray]); (try simp only [List.set_cons_succ]); (try simp only [List.set_cons_zero])
        refine next1 29 (by kernel_rfl) rfl fun K' hK => ?_
        go_simp
        refine hK _ _ ⟨fun e => absurd rfl e, wpAnyF_done (by kernel_rfl) ?_ _⟩; clear hK K'
        go_wp2
        go_ret
        exact ⟨rfl, FIN K4 hown4 nb3⟩
    · skip
      go_simp
      refine hK _ _ ⟨fun _ => SS.out _ (k0.alloc _), ?_⟩; clear hK K'
      (try simp only [Act.put]); (try simp only [List.setIfInBounds_toArray]); (try simp only [List.set_cons_succ]); (try simp only [List.set_cons_zero])
      refine next1 1 (by kernel_rfl) rfl fun K' hK => ?_
      go_simp
      refine hK _ _ ⟨fun _ => SS.out _ ((k0.alloc _).alloc _), ?_⟩; clear hK K'
      (try simp only [Act.put]); (try simp only [List.setIfInBounds_toArray]); (try simp only [List.set_cons_succ]); (try simp only [List.set_cons_zero])
      refine next1 9 (by kernel_rfl) rfl fun K' hK => ?_
      refine step_app (by rfl) _ _ 27 (by rfl) base 31 i0 _ 3 32 Try.underlying27 hi0 hz0 hz1 hz2 (by rfl) (by decide) _ 0 [] (by rfl) (made_at _ (by simp) (by simp; omega)) ⟨g, 0, none⟩ (i + 1) _ (cellsL (L.take (i + 1))) (by rfl) ?_ ?_ ?_ ?_ ?_ ?_ ?_
      · rw [cellsL_length, List.length_take, Nat.min_eq_left (by omega)]
      · exact src_take (S := fun _ => False) HC.out _ ((k0.alloc _).alloc _) (fun f => f)
      · exact cellsL_one _
      · unfold maxLen; omega
      · omega
      · exact Nat.le_trans hb (((k0.alloc _).alloc _)).size
      intro ao1 cap1 w2 hown2 hgr1 hat1
      rw [Nat.zero_add, List.nil_append] at hown2
      rw [Nat.zero_add] at hat1 ⊢
      have K2 : Kept (fun _ => False) w w2 := (((k0.alloc _).alloc _)).grown hgr1 (fun k hk hlt' => by have e := Option.some.inj hk; simp at e; omega)
      have nb1 : ∀ k, (Value.slice ao1 (i + 1) cap1).ownBlock = some k → w.heap.size ≤ k := fun k hk => own_ge hat1 (fun k hk => by have e := Option.some.inj hk; simp at e; omega) (((k0.alloc _).alloc _)).size hk
      refine hK _ _ ⟨fun _ => SS.out _ K2, ?_⟩; clear hK K'
      (try simp only [Act.put]); (try simp only [List.setIfInBounds_toArray]); (try simp only [List.set_cons_succ]); (try simp only [List.set_cons_zero])
      refine next1 18 (by kernel_rfl) rfl fun K' hK => ?_
      refine step_app (by rfl) _ _ 27 (by rfl) base 31 i0 _ 3 32 Try.underlying27 hi0 hz0 hz1 hz2 (by rfl) (by decide) _ (i + 1) _ (by rfl) (hown2) ⟨_, 0, none⟩ 1 1 [.int .i64 m.f, .int .i64 m.t, .string m.d] (by rfl) (by rfl) ?_ ?_ ?_ ?_ ?_ ?_
      · exact fun j u hu => (grown_kept hgr1).cell (World.news_of_block (heap_first _ _ _) j u hu) (fun e => by have e2 := Option.some.inj e; simp [add_mid] at e2)
      · exact mail_one m
      · unfold maxLen; omega
      · omega
      · exact Nat.le_trans hb (K2).size
      intro ao2 cap2 w3 hown3 hgr2 hat2
      have K3 : Kept (fun _ => False) w w3 := (K2).grown hgr2 (fun k hk hlt' => absurd (nb1 k hk) (by omega))
      have nb2 : ∀ k, (Value.slice ao2 (i + 1 + 1) cap2).ownBlock = some k → w.heap.size ≤ k := fun k hk => own_ge hat2 nb1 (K2).size hk
      refine hK _ _ ⟨fun _ => SS.out _ K3, ?_⟩; clear hK K'
      (try simp only [Act.put]); (try simp only [List.setIfInBounds_toArray]); (try simp only [List.set_cons_succ]); (try simp only [List.set_cons_zero])
      refine next1 26 (by kernel_rfl) rfl fun K' hK => ?_
      refine step_app (by rfl) _ _ 27 (by rfl) base 31 i0 _ 3 32 Try.underlying27 hi0 hz0 hz1 hz2 (by rfl) (by decide) _ (i + 1 + 1) _ (by rfl) hown3 XB (L.length - (i + 1)) _ (cellsL (L.drop (i + 1))) (by rfl) ?_ ?_ ?_ ?_ ?_ ?_ ?_
      · rw [cellsL_length, List.length_drop]
      · intro j u hu
        have hj : i + 1 < L.length := Nat.lt_of_not_le fun hge => by rw [List.drop_eq_nil_of_le hge] at hu; cases hu
        rw [XB'.out hj]
        exact src_drop HC.out _ K3 (fun f => f) j u hu
      · exact cellsL_one _
      · unfold maxLen; omega
      · omega
      · exact Nat.le_trans hb K3.size
      intro ao3 cap3 w4 hown4 hgr3 hat3
      have K4 : Kept (fun _ => False) w w4 := K3.grown hgr3 (fun k hk hlt' => absurd (nb2 k hk) (by omega))
      have nb3 : ∀ k, (Value.slice ao3 (i + 1 + 1 + (L.length - (i + 1))) cap3).ownBlock = some k → w.heap.size ≤ k := fun k hk => own_ge hat3 nb2 K3.size hk
      have t0 := K4.cell hr (fun f => f)
      have tf := K4.frozen hfz hlt (fun f => f)
      refine hK _ _ ⟨fun _ => SS.out _ K4, ?_⟩; clear hK K'
      (try simp only [Act.put]); (try simp only [List.setIfInBounds_toArray]); (try simp only [List.set_cons_succ]); (try simp only [List.set_cons_zero])
      refine next1 27 (by kernel_rfl) rfl fun K' hK => ?_
      go_simp
      refine hK _ _ ⟨fun _ => SS.out _ K4, ?_⟩; clear hK K'
      (try simp only [Act.put]); (try simp only [List.setIfInBounds_toArray]); (try simp only [List.set_cons_succ]); (try simp only [List.set_cons_zero])
      refine next1 28 (by kernel_rfl) rfl fun K' hK => ?_
      go_simp
      refine hK _ _ ⟨fun _ => SS.out _ K4, ?_⟩; clear hK K'
      (try simp only [Act.put]); (try simp only [List.setIfInBounds_toArray]); (try simp only [List.set_cons_succ]); (try simp only [List.set_cons_zero])
      refine next1 29 (by kernel_rfl) rfl fun K' hK => ?_
      go_simp
      refine hK _ _ ⟨fun e => absurd rfl e, wpAnyF_done (by kernel_rfl) ?_ _⟩; clear hK K'
      go_wp2
      go_ret
      exact ⟨rfl, FIN K4 hown4 nb3⟩
end Go.Proofs.Ytgafedmabaeemaa
