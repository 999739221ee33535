/- The walks over package nets, third part: Take, Double, New, All. -/
import Derived.Test.YtgafedmabaeemaaWalksB
namespace Go.Proofs.Ytgafedmabaeemaa
open Go.RowKit

theorem Kept.setAt {S : Nat → Prop} {a w : World} {n j : Nat} {u : Value} (hp : n < a.heap.size → S n) (h : Kept S a w) : Kept S a (w.setCell ⟨n, j, none⟩ u) := h.setCell hp u
theorem Kept.cell {S : Nat → Prop} {w w' : World} (hK : Kept S w w') {a : Addr} {v : Value} (h : w.cell? a = some v) (hS : ¬ S a.block) : w'.cell? a = some v :=
  (World.cell?_of_block (w := w) (hK.block a.block (World.block_lt_of_cell? _ _ h) hS)).trans h
theorem Kept.frozen {S : Nat → Prop} {w w' : World} (hK : Kept S w w') {a : Addr} (h : w.frozen? a = false) (hl : a.block < w.heap.size) (hS : ¬ S a.block) : w'.frozen? a = false :=
  (World.frozen?_of_block (w := w) (hK.block a.block hl hS)).trans h
/-- Behind a call: a block of three cells that lay last when the call began. -/
theorem Kept.fresh3 {S : Nat → Prop} {w w1 : World} {x y z : Value} {t : TypeId} (hK : Kept S (w.alloc (.cells #[x, y, z] t)) w1) (hS : ¬ S w.heap.size) :
    w1.cell? ⟨w.heap.size, 0, none⟩ = some x ∧ w1.cell? ⟨w.heap.size, 1, none⟩ = some y ∧ w1.cell? ⟨w.heap.size, 2, none⟩ = some z ∧ (∀ j, w1.frozen? ⟨w.heap.size, j, none⟩ = false) ∧ w.heap.size < w1.heap.size := by
  refine ⟨hK.cell (by simp) hS, hK.cell (by simp) hS, hK.cell (by simp) hS, fun j => hK.frozen (by simp) (by simp) hS, ?_⟩
  have := hK.size; simp at this; omega

theorem Kept.cells3 {S : Nat → Prop} {w w' : World} {n : Nat} {x y z : Value} (hK : Kept S w w') (hS : ¬ S n) (h0 : w.cell? ⟨n, 0, none⟩ = some x) (h1 : w.cell? ⟨n, 1, none⟩ = some y) (h2 : w.cell? ⟨n, 2, none⟩ = some z) (hf : ∀ j, w.frozen? ⟨n, j, none⟩ = false) :
    w'.cell? ⟨n, 0, none⟩ = some x ∧ w'.cell? ⟨n, 1, none⟩ = some y ∧ w'.cell? ⟨n, 2, none⟩ = some z ∧ (∀ j, w'.frozen? ⟨n, j, none⟩ = false) :=
  have hl := World.block_lt_of_cell? _ _ h0
  ⟨hK.cell h0 hS, hK.cell h1 hS, hK.cell h2 hS, fun j => hK.frozen (hf j) hl hS⟩

set_option maxHeartbeats 1000000 in
theorem take_no (w : World) (v : Value) (n : Nat) (i : Int) (h : Many w v n) (hi : i < 0 ∨ (n : Int) ≤ i) :
    Calls Try.prog 20 #[v, .int .i64 i] w fun e w' => e = .returned (.tuple #[Mail.zero.val, .bool false]) ∧ Kept (fun _ => False) w w' := by
  have H := Lib.hid h; have I := Lib.hid hi; clear h hi
  go_enter Try.func20, Try.ntmps20
  go_wp2_with fail
  refine (look_no _ v n i (H.out.alloc _) I.out).mono ?_
  rintro e w1 ⟨rfl, hK⟩
  have K1 := Lib.hid hK
  obtain ⟨c0, c1, c2, fz, hsz⟩ := hK.fresh3 (fun f => f)
  clear hK
  rw [zero_val]
  go_wp2_with fail
  go_region
  all_goals go_wp2
  all_goals refine bodyPost_ret (v := .tuple #[.agg #[.int .i64 0, .int .i64 0, .string ⟨#[]⟩], .bool false]) (by simp [results, Try.results20, go_sem, c0, c1, c2, hsz]) rfl ⟨rfl, ?_⟩
  all_goals exact ((((((((Kept.refl _ _).alloc _).trans K1.out (fun _ _ f => f) (fun _ _ f => f)).setCell (fun h => absurd h (by simp)) _).setCell (fun h => absurd h (by simp)) _).setCell (fun h => absurd h (by simp)) _).alloc _).drew)

set_option maxHeartbeats 2000000 in
theorem take_at (w : World) (b : Nat) (L : List Mail) (i : Nat) (m : Mail) (h : NetOk w b L) (hm : L[i]? = some m) :
    Calls Try.prog 20 #[.pointer (some ⟨b, 0, none⟩), .int .i64 i] w fun e w' => e = .returned (.tuple #[m.val, .bool true]) ∧ NetOk w' b (L.eraseIdx i) ∧ Kept (fun k => k = b) w w' := by
  have hb := h.lt
  have hi := lt_of_get hm
  have H := Lib.hid h; have M := Lib.hid hm; clear h hm
  go_enter Try.func20, Try.ntmps20
  go_wp2_with fail
  refine (look_at _ b L i m (H.out.kept ((Kept.refl (fun _ => False) _).alloc _) (fun f => f)) M.out).mono ?_
  rintro e w1 ⟨rfl, hK⟩
  have K1 := Lib.hid hK
  obtain ⟨c0, c1, c2, fz, hsz⟩ := hK.fresh3 (fun f => f)
  have hN1 := (H.out.kept ((Kept.refl (fun _ => False) _).alloc _) (fun f => f)).kept hK (fun f => f)
  have N1 := Lib.hid hN1
  clear hK hN1
  unfold Mail.val
  go_wp2_with fail
  have n1 : ¬ w.heap.size = b := by omega
  have n2 : ¬ w1.heap.size = b := by omega
  go_region_with (go_at_call 19; refine (lose_yes _ b L i ?_ hi).mono ?_; (refine N1.out.kept (S := fun _ => False) ?_ (fun f => f); repeat (first | exact Kept.refl _ _ | apply Kept.drew | apply Kept.alloc)); rintro e w' ⟨rfl, h2, h3⟩; (obtain ⟨k0, k1, k2, kf⟩ := h3.cells3 (n := w.heap.size) n1 (x := .int .i64 0) (y := .int .i64 0) (z := .string ⟨#[]⟩) (by simp [go_sem, c0, hsz]) (by simp [go_sem, c1, hsz]) (by simp [go_sem, c2, hsz]) (by simp [go_sem, fz, hsz])); (obtain ⟨m0, m1, m2, _⟩ := h3.cells3 (n := w1.heap.size) n2 (x := .int .i64 m.f) (y := .int .i64 m.t) (z := .string m.d) (by simp [go_sem]) (by simp [go_sem]) (by simp [go_sem]) (by simp [go_sem])))
  all_goals go_wp2
  all_goals refine bodyPost_ret (v := .tuple #[.agg #[.int .i64 m.f, .int .i64 m.t, .string m.d], .bool true]) (by simp [results, Try.results20, go_sem, k0, k1, k2]) rfl ⟨rfl, ?_, ?_⟩
  all_goals first
    | exact h2.kept (S := fun k => k = w.heap.size) (by repeat (first | exact Kept.refl _ _ | apply Kept.drew | apply Kept.alloc | refine Kept.setAt (fun _ => rfl) ?_)) (by omega)
    | skip
  all_goals
    have k1 : Kept (fun _ => False) w w1 := ((Kept.refl (fun _ => False) _).alloc _).trans K1.out (fun _ _ f => f) (fun _ _ f => f)
    refine k1.trans (S' := fun k => k = b ∨ k = w.heap.size) (T := fun k => k = b) ?_ (fun _ _ f => f.elim) (fun i hi f => f.elim id (fun e => by omega))
    repeat (first | (refine Kept.trans (S := fun _ => False) (S' := fun k => k = b) ?_ h3 (fun _ _ f => f.elim) (fun _ _ f => .inl f)) | exact Kept.refl _ _ | apply Kept.drew | apply Kept.alloc | refine Kept.setAt (fun _ => .inr rfl) ?_)
end Go.Proofs.Ytgafedmabaeemaa
