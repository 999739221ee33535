/- merges.New: the rows that have cells, as a heap. -/
import Derived.Test.YtfhpjopdndnmgaaOrder
namespace Go.Proofs.Ytfhpjopdndnmgaa
open Go.RowKit

/-- The rows that have cells left, with their places. -/
def aliveF : Nat → List (List Cel) → List (Nat × List Cel)
  | _, [] => []
  | k, x :: t => if x.length = 0 then aliveF (k + 1) t else (k, x) :: aliveF (k + 1) t
theorem aliveF_append : ∀ (k : Nat) (a : List (List Cel)) (x : List Cel), aliveF k (a ++ [x]) = aliveF k a ++ (if x.length = 0 then [] else [(k + a.length, x)])
  | k, [], x => by simp [aliveF]
  | k, y :: t, x => by
    simp only [List.cons_append, aliveF, aliveF_append (k + 1) t x]
    split <;> simp [Nat.add_comm, Nat.add_left_comm]
theorem aliveF_length : ∀ (k : Nat) (a : List (List Cel)), (aliveF k a).length ≤ a.length
  | _, [] => Nat.le_refl _
  | k, y :: t => by
    simp only [aliveF]
    have := aliveF_length (k + 1) t
    split <;> simp <;> omega

def Rw.key (r : Rw) : Nat × List Cel := (r.place, r.xs)

/-- An iterator that stands at block p. -/
structure ItAt (w : World) (base p : Nat) (v : Value) (l : List Rw) : Prop where
  heap : HeapAt w base p v l
  hp : Heap ltR l.length l
  above : base ≤ p ∧ ∀ r ∈ l, base ≤ r.blk
theorem ItAt.kept {w w' : World} {base p : Nat} {v : Value} {l : List Rw} (h : ItAt w base p v l) (hK : Kept (fun _ => False) w w') : ItAt w' base p v l := ⟨h.heap.kept hK, h.hp, h.above⟩
theorem ItAt.mine {w : World} {base p : Nat} {v : Value} {l : List Rw} (h : ItAt w base p v l) : ∀ b, mine p v b → base ≤ b := by
  rintro b (rfl | e)
  · exact h.above.1
  · exact (h.heap.own.lt b e).1

theorem nil_heap : Heap ltR ([] : List Rw).length [] := by intro k _ h; simp at h
theorem own_some {w : World} {base : Nat} {v : Value} {R : List Cel} (h : w.ownsRow base 36 3 v R.length (cellsC R)) (hne : 0 < R.length) :
    ∃ b cap, v = .slice (some ⟨b, 0, none⟩) R.length cap ∧ R.length ≤ cap ∧ base ≤ b ∧ b < w.heap.size ∧ ∀ j u, (cellsC R)[j]? = some u → w.cell? ⟨b, j, none⟩ = some u := by
  rcases row_form h with ⟨_, h0⟩ | ⟨g, cap, rfl, h1, h2, h3, h4⟩
  · omega
  · exact ⟨g, cap, rfl, h1, h2, h3, h4⟩

set_option maxRecDepth 100000 in
set_option maxHeartbeats 4000000 in
theorem new_any (w : World) (v0 : Value) (L : List (List Cel)) (h : ReadsR w v0 L) (hL : L.length ≤ 50) (hl : ∀ R ∈ L, R.length ≤ 1000) :
    Calls Try.prog 18 #[v0] w fun e w' => Kept (fun _ => False) w w' ∧
      ((L.all sortedB = false ∧ e = .returned (.tuple #[.pointer none, .int .i64 2])) ∨
       (L.all sortedB = true ∧ ∃ p v l, e = .returned (.tuple #[.pointer (some ⟨p, 0, none⟩), .int .i64 0]) ∧ ItAt w' w.heap.size p v l ∧ (l.map Rw.key).Perm (aliveF 0 L))) := by
  obtain ⟨ao, cap, rfl, h⟩ := h
  have HR := Lib.hid h; have HL := Lib.hid hl; clear h hl
  go_enter Try.func18, Try.ntmps18
  go_wp2
  go_loopg [11] L.length (fun g t wr => ∃ k : Nat, k + g = L.length ∧ t = .int .i64 k ∧ Kept (fun b => w.heap.size ≤ b) w wr ∧ (L.take k).all sortedB = true ∧ ∃ v l, ItAt wr w.heap.size w.heap.size v l ∧ (l.map Rw.key).Perm (aliveF 0 (L.take k)))
  case atStart =>
    refine ⟨0, by omega, rfl, ((Kept.refl _ w).alloc _), by simp, .slice none 0 0, [], ⟨⟨by simp [go_sem], by simp [go_sem], World.ownsRow_nil _ _ _ _, by simp, by simp [Value.ownBlock], by simp, by simp⟩, nil_heap, Nat.le_refl _, by simp⟩, by simp [aliveF]⟩
  case round =>
    obtain ⟨k, hk, rfl, KW, hall, v, l, hit, hperm⟩ := hrel
    have hk1 : k ≤ L.length := by omega
    have J := Lib.hid hk; have KW0 := Lib.hid KW; have AL := Lib.hid hall; have IT := Lib.hid hit; have PE := Lib.hid hperm
    have KF := Lib.hid (KW.mono (T := fun _ => False) (fun k hk h => by omega))
    clear hk KW hall hit hperm
    by_cases hlt : k < L.length
    · rcases HR.out with h0 | ⟨g, o, rfl, hc⟩
      · rw [h0] at hlt; simp at hlt
      obtain ⟨R, hR⟩ : ∃ R, L[k]? = some R := ⟨_, List.getElem?_eq_getElem hlt⟩
      obtain ⟨u, hu, hru⟩ := hc k R hR
      have hu2 := KF.out.cell hu (fun f => f)
      have hrl := HL.out R (List.mem_of_getElem? hR)
      have RU := Lib.hid (hru.keptF KF.out); have RG := Lib.hid hR; have RL := Lib.hid hrl
      have htk : L.take (k + 1) = L.take k ++ [R] := by rw [List.take_add_one, hR]; rfl
      have TK := Lib.hid htk
      clear hc hu hru hR hrl htk
      have i1 : (0 : Int) ≤ (k : Int) := by omega
      have i2 : (k : Int) < (L.length : Int) := by omega
      cases hs : sortedB R with
      | false =>
        go_wp2_with (go_at_call 30; refine (sorted_any _ u R (RU.out) (RL.out)).mono ?_; rw [hs]; rintro e w4 ⟨rfl, K4⟩; (have KK4 := Lib.hid K4); clear K4)
        refine bodyPost_ret (v := _) (by simp [results, Try.results18, go_sem]; try rfl) rfl ?_
        refine ⟨KF.out.trans KK4.out (fun _ _ h => h) (fun _ _ h => h), .inl ⟨?_, rfl⟩⟩
        cases ha : L.all sortedB with
        | false => rfl
        | true =>
          have := List.all_eq_true.1 ha R (List.mem_of_getElem? RG.out)
          rw [hs] at this; cases this
      | true =>
        have hall1 : (L.take (k + 1)).all sortedB = true := by rw [TK.out, List.all_append, AL.out]; simp [hs]
        have AL1 := Lib.hid hall1; have HS := Lib.hid hs; clear hall1 hs
        obtain ⟨ao2, cap2, rfl, hru⟩ := RU.out
        by_cases hpos : 0 < R.length
        · have hp1 : (0 : Int) < (R.length : Int) := by omega
          have PO := Lib.hid hpos; clear hru
          go_upto_region 8 with (go_at_call 30; refine (sorted_any _ (Value.slice ao2 R.length cap2) R (RU.out) (RL.out)).mono ?_; rw [HS.out]; rintro e w4 ⟨rfl, K4⟩; (have KK0 := Lib.hid K4); clear K4)
          refine wp_region_held_drew (S := (fun _ => True)) (by kernel_rfl) ?_ (fun hHeld => ?_)
          · trivial
          refine wpAnyH_take (i := 0) (v := ?_) opAt0 (by kernel_rfl) (by kernel_rfl) (by kernel_rfl) (fun _ _ _ h => h) (Or.inl ⟨by rfl, ?_⟩) hHeld ?_
          case refine_2 => (intro w hSw; (try dsimp only at hSw); go_simp; all_goals (with_reducible rfl))
          (try simp only [Act.put]); (try simp only [List.setIfInBounds_toArray]); (try simp only [List.set_cons_succ]); (try simp only [List.set_cons_zero])
          refine wpAnyH_take (i := 1) (v := ?_) opAt1 (by kernel_rfl) (by kernel_rfl) (by kernel_rfl) (fun _ _ _ h => h) (Or.inl ⟨by rfl, ?_⟩) hHeld ?_
          case refine_2 => (intro w hSw; (try dsimp only at hSw); go_simp; all_goals (with_reducible rfl))
          (try simp only [Act.put]); (try simp only [List.setIfInBounds_toArray]); (try simp only [List.set_cons_succ]); (try simp only [List.set_cons_zero])
          refine wpAnyH_take (i := 2) (v := ?_) opAt2 (by kernel_rfl) (by kernel_rfl) (by kernel_rfl) (fun _ _ _ h => h) (Or.inl ⟨by rfl, ?_⟩) hHeld ?_
          case refine_2 => (intro w hSw; (try dsimp only at hSw); go_simp; all_goals (with_reducible rfl))
          (try simp only [Act.put]); (try simp only [List.setIfInBounds_toArray]); (try simp only [List.set_cons_succ]); (try simp only [List.set_cons_zero])
          refine wpAnyH_take (i := 3) (v := ?_) opAt3 (by kernel_rfl) (by kernel_rfl) (by kernel_rfl) (fun _ _ _ h => h) (Or.inl ⟨by rfl, ?_⟩) hHeld ?_
          case refine_2 => (intro w hSw; (try dsimp only at hSw); go_simp; all_goals (with_reducible rfl))
          (try simp only [Act.put]); (try simp only [List.setIfInBounds_toArray]); (try simp only [List.set_cons_succ]); (try simp only [List.set_cons_zero])
          refine wpAnyH_take (i := 4) (v := ?_) opAt4 (by kernel_rfl) (by kernel_rfl) (by kernel_rfl) (fun _ _ _ h => h) (Or.inl ⟨by rfl, ?_⟩) hHeld ?_
          case refine_2 => (intro w hSw; (try dsimp only at hSw); go_simp; all_goals (with_reducible rfl))
          (try simp only [Act.put]); (try simp only [List.setIfInBounds_toArray]); (try simp only [List.set_cons_succ]); (try simp only [List.set_cons_zero])
          refine wpAnyH_take (i := 6) (v := ?_) opAt6 (by kernel_rfl) (by kernel_rfl) (by kernel_rfl) (fun _ _ _ h => h) (Or.inl ⟨by rfl, ?_⟩) hHeld ?_
          case refine_2 => (intro w hSw; (try dsimp only at hSw); go_simp; all_goals (with_reducible rfl))
          (try simp only [Act.put]); (try simp only [List.setIfInBounds_toArray]); (try simp only [List.set_cons_succ]); (try simp only [List.set_cons_zero])
          refine wpAnyH_ready (rs := [5]) (by kernel_rfl) (by simp) ?_
          refine AllReadyH.cons opAt5 (fun K hK => ?_) AllReadyH.nil
          go_simp
          go_at_call 32; refine (clone_any _ (Value.slice ao2 R.length cap2) R (RU.out.keptF KK0.out.drew) (RL.out) (PO.out)).mono ?_; rintro e w6 ⟨v4, rfl, o4, K4⟩; obtain ⟨b4, cap4, rfl, fit4, ge4, lt4, c4⟩ := own_some o4 PO.out; have O4 := Lib.hid o4; have KK4 := Lib.hid ((KK0.out.drew).trans K4 (fun _ _ h => h) (fun _ _ h => h)); have g4 : wr.heap.size ≤ b4 := Nat.le_trans KK0.out.size ge4; have C4 := Lib.hid c4; clear o4 K4 c4; dsimp only
          refine hK.out _ _ ?_ (fun hHeld => ?_)
          · trivial
          clear hK K
          (try simp only [Act.put]); (try simp only [List.setIfInBounds_toArray]); (try simp only [List.set_cons_succ]); (try simp only [List.set_cons_zero])
          refine wpAnyH_take (i := 7) (v := ?_) opAt7 (by kernel_rfl) (by kernel_rfl) (by kernel_rfl) (fun _ _ _ h => h) (Or.inl ⟨by rfl, ?_⟩) hHeld ?_
          case refine_2 => (intro w hSw; (try dsimp only at hSw); go_simp; all_goals (with_reducible rfl))
          (try simp only [Act.put]); (try simp only [List.setIfInBounds_toArray]); (try simp only [List.set_cons_succ]); (try simp only [List.set_cons_zero])
          refine wpAnyH_take (i := 8) (v := ?_) opAt8 (by kernel_rfl) (by kernel_rfl) (by kernel_rfl) (fun _ _ _ h => h) (Or.inl ⟨by rfl, ?_⟩) hHeld ?_
          case refine_2 => (intro w hSw; (try dsimp only at hSw); go_simp; all_goals (with_reducible rfl))
          (try simp only [Act.put]); (try simp only [List.setIfInBounds_toArray]); (try simp only [List.set_cons_succ]); (try simp only [List.set_cons_zero])
          refine wpAnyH_ready (rs := [9]) (by kernel_rfl) (by simp) ?_
          refine AllReadyH.cons opAt9 (fun K hK => ?_) AllReadyH.nil
          go_simp
          go_at_call 31; refine (heap_push (r := ⟨b4, 0, cap4, R, k⟩) ((IT.out.heap.kept KK4.out)) ⟨PO.out, RL.out, fit4, by show k ≤ 1000; omega, fun j u hu => by rw [Nat.zero_add]; exact C4.out j u hu⟩ (fun e => by have h1 : b4 = w.heap.size := e; have := KW0.out.size; have h2 := IT.out.heap.cell; have := World.block_lt_of_cell? _ _ h2; simp only at this; omega) (fun e => by have := (IT.out.heap.own.lt b4 e).2; omega) (by have h1 := PE.out.length_eq; rw [List.length_map] at h1; have h2 := aliveF_length 0 (L.take k); rw [List.length_take] at h2; omega) (by have := KW0.out.size; have := KK4.out.size; omega)).mono ?_; rintro e w5 ⟨rfl, v5, h5, k5, a5⟩; have H5 := Lib.hid h5; have K5 := Lib.hid k5; clear h5 k5 a5; dsimp only
          refine hK.out _ _ ?_ (fun hHeld => ?_)
          · trivial
          clear hK K
          (try simp only [Act.put]); (try simp only [List.setIfInBounds_toArray]); (try simp only [List.set_cons_succ]); (try simp only [List.set_cons_zero])
          refine wpAnyH_done (by kernel_rfl) ?_ _
          go_wp2
          go_roundg (gk - 1)
          case measure => have := J.out; omega
          case rel =>
            refine ⟨k + 1, by have := J.out; omega, by go_num, (KW0.out.trans KK4.out (fun _ _ h => h) (fun _ _ f => f.elim)).trans K5.out (fun _ _ h => h) (fun b _ hb => (IT.out.kept KK4.out).mine b hb), AL1.out, v5, _, ⟨H5.out, push_heap ltR ltR_ord _ IT.out.hp, Nat.le_refl _, fun r hr => ?_⟩, ?_⟩
            · rcases List.mem_cons.1 ((push_perm ltR l _).mem_iff.1 hr) with rfl | hr
              · show w.heap.size ≤ b4; have := KW0.out.size; omega
              · exact IT.out.above.2 r hr
            · rw [TK.out, aliveF_append, if_neg (by omega)]
              have q1 := (push_perm ltR l (⟨b4, 0, cap4, R, k⟩ : Rw)).map Rw.key
              refine q1.trans ?_
              have e1 : 0 + (L.take k).length = k := by rw [List.length_take]; omega
              rw [e1]
              exact ((PE.out.cons (k, R)).trans (List.perm_append_singleton _ _).symm)
        · have hp1 : ¬ (0 : Int) < (R.length : Int) := by omega
          have hp0 : R.length = 0 := by omega
          have P0 := Lib.hid hp0; clear hp0 hpos hru
          go_wp2_with (go_at_call 30; refine (sorted_any _ (Value.slice ao2 R.length cap2) R (RU.out) (RL.out)).mono ?_; rw [HS.out]; rintro e w4 ⟨rfl, K4⟩; (have KK4 := Lib.hid K4); clear K4)
          go_roundg (gk - 1)
          case measure => have := J.out; omega
          case rel => exact ⟨k + 1, by have := J.out; omega, by go_num, KW0.out.trans KK4.out (fun _ _ h => h) (fun _ _ f => f.elim), AL1.out, v, l, IT.out.kept KK4.out, by rw [TK.out, aliveF_append, if_pos P0.out, List.append_nil]; exact PE.out⟩
    · have hk2 : k = L.length := by omega
      have e0 : ¬ (k : Int) < (L.length : Int) := by omega
      have K2 := Lib.hid hk2; clear hk2
      go_wp2
      refine bodyPost_ret (v := _) (by simp [results, Try.results18, go_sem]; try rfl) rfl ?_
      refine ⟨KF.out, .inr ⟨?_, _, rfl, v, l, IT.out, ?_⟩⟩
      · have := AL.out; rw [K2.out, List.take_length] at this; first | exact this | exact List.all_eq_true.1 this
      · have := PE.out; rwa [K2.out, List.take_length] at this
end Go.Proofs.Ytfhpjopdndnmgaa
