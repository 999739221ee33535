/- merges.All, walked. -/
import Derived.Test.YtfhpjopdndnmgaaMerge
namespace Go.Proofs.Ytfhpjopdndnmgaa
open Go.RowKit

theorem own_low {w : World} {base base' e size : Nat} {v : Value} {n : Nat} {xs : List Value} (h : w.ownsRow base e size v n xs) (hb : base' ≤ base) : w.ownsRow base' e size v n xs := by
  obtain ⟨h1, h2⟩ := h
  refine ⟨h1, ?_⟩
  rcases h2 with h2 | ⟨g, cap, cur, rfl, hg, rest⟩
  · exact .inl h2
  · exact .inr ⟨g, cap, cur, rfl, Nat.le_trans hb hg, rest⟩
theorem ItAt.ownI_ge {w : World} {base p : Nat} {v : Value} {l : List Rw} (h : ItAt w base p v l) : ∀ b, OwnI p v l b → base ≤ b := by
  rintro b (e | ⟨r, hr, rfl⟩)
  · exact h.mine b e
  · exact h.above.2 r hr

set_option maxHeartbeats 2000000 in
theorem all_any (w : World) (v0 : Value) (L : List (List Cel)) (h : ReadsR w v0 L) (hL : L.length ≤ 50) (hl : ∀ R ∈ L, R.length ≤ 1000) (ht : total L ≤ 1000) :
    Calls Try.prog 11 #[v0] w fun e w' => Kept (fun _ => False) w w' ∧
      ((L.all sortedB = false ∧ e = .returned (.tuple #[.slice none 0 0, .int .i64 2])) ∨
       (L.all sortedB = true ∧ ∃ u, e = .returned (.tuple #[u, .int .i64 0]) ∧ w'.ownsRow w.heap.size 36 3 u (mergeL L).length (cellsC (mergeL L)))) := by
  have HN := Lib.hid (new_any w v0 L h hL hl)
  clear h hl
  go_enter Try.func11, Try.ntmps11
  go_wp2_with fail
  refine HN.out.mono ?_
  rintro e w1 ⟨K1, ⟨ha, rfl⟩ | ⟨ha, p, v, l, rfl, hIt, hperm⟩⟩
  · have KK1 := Lib.hid K1; have HA := Lib.hid ha; clear K1 ha
    go_wp2
    refine bodyPost_ret (v := _) (by simp [results, Try.results11, go_sem]; try rfl) rfl ?_
    exact ⟨KK1.out, .inl ⟨HA.out, rfl⟩⟩
  · have e1 : drainL (sumL l) l = mergeL L := by
      rw [total_perm l L hperm]
      exact drain_merge (total L) l L hIt.hp (fun r hr => (hIt.heap.good r hr).ne) hperm
    have e2 : sumL l ≤ 1000 := by rw [total_perm l L hperm]; exact ht
    have KK1 := Lib.hid K1; have HA := Lib.hid ha; have IT := Lib.hid hIt; have E1 := Lib.hid e1
    clear K1 ha hIt hperm e1
    have hce := collect_in (w1.alloc (.cells #[.pointer (some ⟨p, 0, none⟩)] 32)) (bx := w1.heap.size) (IT.out.kept ((Kept.refl _ _).alloc _)) (by have := KK1.out.size; simp; omega) (by simp [go_sem]) (fun hb => Nat.lt_irrefl _ (IT.out.own_lt _ hb)) e2
    have CE := Lib.hid hce; clear hce
    go_wp2_with (first
      | (go_at_call 25; refine (each_new p _).mono ?_; rintro e w2 ⟨rfl, rfl⟩)
      | (go_at_call 24; refine CE.out.mono ?_; rintro e w3 ⟨u, rfl, h3, k3⟩; (have H3 := Lib.hid h3); (have K3 := Lib.hid k3); clear h3 k3))
    refine bodyPost_ret (v := _) (by simp [results, Try.results11, go_sem]; try rfl) rfl ?_
    refine ⟨(KK1.out.alloc _).trans K3.out (fun _ _ h => h) (fun b hb h => by have := IT.out.ownI_ge b h; omega), .inr ⟨HA.out, u, rfl, ?_⟩⟩
    have h3 := H3.out
    rw [E1.out] at h3
    exact own_low h3 (by have := KK1.out.size; simp; omega)
end Go.Proofs.Ytfhpjopdndnmgaa
