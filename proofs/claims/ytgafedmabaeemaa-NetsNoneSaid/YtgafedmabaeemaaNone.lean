/- NetsNone: what is done with a net that is none. -/
import Derived.Test.YtgafedmabaeemaaDoes
namespace Go.Proofs.Ytgafedmabaeemaa
open Go.RowKit

/-- A net that is none: nil, or one that New has not made. -/
def Void (w : World) (v : Value) : Prop := v = .pointer none ∨ ∃ b, v = .pointer (some ⟨b, 0, none⟩) ∧ w.cell? ⟨b, 0, none⟩ = some (.bool false) ∧ w.cell? ⟨b, 1, none⟩ = some (.int .i64 0)
theorem Void.many {w : World} {v : Value} (h : Void w v) : Many w v 0 := by
  rcases h with h | ⟨b, h1, _, h3⟩
  · exact .inl ⟨h, rfl⟩
  · exact .inr ⟨b, h1, h3⟩
theorem Void.send {w : World} {v : Value} (h : Void w v) : v = .pointer none ∨ ∃ b, v = .pointer (some ⟨b, 0, none⟩) ∧ w.cell? ⟨b, 0, none⟩ = some (.bool false) := by
  rcases h with h | ⟨b, h1, h2, _⟩
  · exact .inl h
  · exact .inr ⟨b, h1, h2⟩
/-- The block in which a net lies. -/
def ptrBlock : Value → Option Nat
  | .pointer (some a) => some a.block
  | _ => none
theorem Void.kept {S : Nat → Prop} {w w' : World} {v : Value} (h : Void w v) (hK : Kept S w w') (hS : ∀ k, ptrBlock v = some k → ¬ S k) : Void w' v := by
  rcases h with h | ⟨b, rfl, h2, h3⟩
  · exact .inl h
  · exact .inr ⟨b, rfl, hK.cell h2 (hS b rfl), hK.cell h3 (hS b rfl)⟩

theorem kept_of_eq {w w' : World} (h : w = w') : Kept (fun _ => False) w w' := h ▸ Kept.refl _ _
theorem nowhere (i : Int) : i < 0 ∨ ((0 : Nat) : Int) ≤ i := by omega

set_option maxHeartbeats 2000000 in
theorem void_look (w : World) (v : Value) (x : Act') (h : Void w v) (h0 : 0 ≤ x.kind) (h1 : x.kind < 256) (hk : x.kind % 9 = 4) :
    Calls Try.prog 11 #[v, x.val] w fun e w' => e = .returned (.tuple #[.agg #[.int .i64 0, .int .i64 0, .string ⟨#[]⟩], .bool false]) ∧ Kept (fun _ => False) w w' := by
  have H := Lib.hid h; clear h
  unfold Act'.val
  go_enter Try.func11, Try.ntmps11
  go_wp2_with fail
  have V := H.out.kept (((Kept.refl (fun _ => False) w).alloc (Obj.cells #[.int .u8 x.kind, .int .i64 x.m.f, .int .i64 x.m.t, .string x.m.d, .int .i64 x.i] 35)).alloc (Obj.cells #[.int .i64 0, .int .i64 0, .string ⟨#[]⟩] 31)) (fun _ _ f => f)
  refine (look_no _ v 0 x.i V.many (nowhere _)).mono ?_
  rintro e w1 ⟨rfl, hw⟩
  have hK := hw
  clear hw V
  obtain ⟨c0, c1, c2, fz⟩ := hK.cells3 (n := w.heap.size + 1) (fun f => f) (x := .int .i64 0) (y := .int .i64 0) (z := .string ⟨#[]⟩) (by simp [go_sem]) (by simp [go_sem]) (by simp [go_sem]) (by simp [go_sem])
  have K2 := Lib.hid hK; clear hK
  rw [zero_val]
  go_wp2
  refine bodyPost_ret (v := .tuple #[.agg #[.int .i64 0, .int .i64 0, .string ⟨#[]⟩], .bool _]) (by simp [results, Try.results11, go_sem, c0, c1, c2]; try rfl) rfl ⟨rfl, ?_⟩
  have k2 : Kept (fun _ => False) w w1 := (((Kept.refl (fun _ => False) w).alloc _).alloc _).trans K2.out (fun _ _ f => f) (fun _ _ f => f)
  exact ((k2.setCell (fun hh => absurd hh (by simp)) _).setCell (fun hh => absurd hh (by simp)) _).setCell (fun hh => absurd hh (by simp)) _

set_option maxHeartbeats 2000000 in
theorem void_take5 (w : World) (v : Value) (x : Act') (h : Void w v) (h0 : 0 ≤ x.kind) (h1 : x.kind < 256) (hk : x.kind % 9 = 5) :
    Calls Try.prog 11 #[v, x.val] w fun e w' => e = .returned (.tuple #[.agg #[.int .i64 0, .int .i64 0, .string ⟨#[]⟩], .bool false]) ∧ Kept (fun _ => False) w w' := by
  have H := Lib.hid h; clear h
  unfold Act'.val
  go_enter Try.func11, Try.ntmps11
  go_wp2_with fail
  have V := H.out.kept (((Kept.refl (fun _ => False) w).alloc (Obj.cells #[.int .u8 x.kind, .int .i64 x.m.f, .int .i64 x.m.t, .string x.m.d, .int .i64 x.i] 35)).alloc (Obj.cells #[.int .i64 0, .int .i64 0, .string ⟨#[]⟩] 31)) (fun _ _ f => f)
  refine (take_no _ v 0 x.i V.many (nowhere _)).mono ?_
  rintro e w1 ⟨rfl, hw⟩
  have hK := hw
  clear hw V
  obtain ⟨c0, c1, c2, fz⟩ := hK.cells3 (n := w.heap.size + 1) (fun f => f) (x := .int .i64 0) (y := .int .i64 0) (z := .string ⟨#[]⟩) (by simp [go_sem]) (by simp [go_sem]) (by simp [go_sem]) (by simp [go_sem])
  have K2 := Lib.hid hK; clear hK
  rw [zero_val]
  go_wp2
  refine bodyPost_ret (v := .tuple #[.agg #[.int .i64 0, .int .i64 0, .string ⟨#[]⟩], .bool _]) (by simp [results, Try.results11, go_sem, c0, c1, c2]; try rfl) rfl ⟨rfl, ?_⟩
  have k2 : Kept (fun _ => False) w w1 := (((Kept.refl (fun _ => False) w).alloc _).alloc _).trans K2.out (fun _ _ f => f) (fun _ _ f => f)
  exact ((k2.setCell (fun hh => absurd hh (by simp)) _).setCell (fun hh => absurd hh (by simp)) _).setCell (fun hh => absurd hh (by simp)) _

set_option maxHeartbeats 2000000 in
theorem void_take6 (w : World) (v : Value) (x : Act') (h : Void w v) (h0 : 0 ≤ x.kind) (h1 : x.kind < 256) (hk : x.kind % 9 = 6) :
    Calls Try.prog 11 #[v, x.val] w fun e w' => e = .returned (.tuple #[.agg #[.int .i64 0, .int .i64 0, .string ⟨#[]⟩], .bool false]) ∧ Kept (fun _ => False) w w' := by
  have H := Lib.hid h; clear h
  unfold Act'.val
  go_enter Try.func11, Try.ntmps11
  go_wp2_with fail
  have V := H.out.kept (((Kept.refl (fun _ => False) w).alloc (Obj.cells #[.int .u8 x.kind, .int .i64 x.m.f, .int .i64 x.m.t, .string x.m.d, .int .i64 x.i] 35)).alloc (Obj.cells #[.int .i64 0, .int .i64 0, .string ⟨#[]⟩] 31)) (fun _ _ f => f)
  refine (take_no _ v 0 x.i V.many (nowhere _)).mono ?_
  rintro e w1 ⟨rfl, hw⟩
  have hK := hw
  clear hw V
  obtain ⟨c0, c1, c2, fz⟩ := hK.cells3 (n := w.heap.size + 1) (fun f => f) (x := .int .i64 0) (y := .int .i64 0) (z := .string ⟨#[]⟩) (by simp [go_sem]) (by simp [go_sem]) (by simp [go_sem]) (by simp [go_sem])
  have K2 := Lib.hid hK; clear hK
  rw [zero_val]
  go_wp2
  refine bodyPost_ret (v := .tuple #[.agg #[.int .i64 0, .int .i64 0, .string ⟨#[]⟩], .bool _]) (by simp [results, Try.results11, go_sem, c0, c1, c2]; try rfl) rfl ⟨rfl, ?_⟩
  have k2 : Kept (fun _ => False) w w1 := (((Kept.refl (fun _ => False) w).alloc _).alloc _).trans K2.out (fun _ _ f => f) (fun _ _ f => f)
  exact ((k2.setCell (fun hh => absurd hh (by simp)) _).setCell (fun hh => absurd hh (by simp)) _).setCell (fun hh => absurd hh (by simp)) _

set_option maxHeartbeats 2000000 in
theorem void_double (w : World) (v : Value) (x : Act') (h : Void w v) (h0 : 0 ≤ x.kind) (h1 : x.kind < 256) (hk : x.kind % 9 = 7) :
    Calls Try.prog 11 #[v, x.val] w fun e w' => e = .returned (.tuple #[.agg #[.int .i64 0, .int .i64 0, .string ⟨#[]⟩], .bool false]) ∧ Kept (fun _ => False) w w' := by
  have H := Lib.hid h; clear h
  unfold Act'.val
  go_enter Try.func11, Try.ntmps11
  go_wp2_with fail
  have V := H.out.kept (((Kept.refl (fun _ => False) w).alloc (Obj.cells #[.int .u8 x.kind, .int .i64 x.m.f, .int .i64 x.m.t, .string x.m.d, .int .i64 x.i] 35)).alloc (Obj.cells #[.int .i64 0, .int .i64 0, .string ⟨#[]⟩] 31)) (fun _ _ f => f)
  refine (double_no _ v 0 x.i V.many (nowhere _)).mono ?_
  rintro e w1 ⟨rfl, hw⟩
  have hK := kept_of_eq hw
  clear hw V
  obtain ⟨c0, c1, c2, fz⟩ := hK.cells3 (n := w.heap.size + 1) (fun f => f) (x := .int .i64 0) (y := .int .i64 0) (z := .string ⟨#[]⟩) (by simp [go_sem]) (by simp [go_sem]) (by simp [go_sem]) (by simp [go_sem])
  have K2 := Lib.hid hK; clear hK
  go_wp2
  refine bodyPost_ret (v := .tuple #[.agg #[.int .i64 0, .int .i64 0, .string ⟨#[]⟩], .bool _]) (by simp [results, Try.results11, go_sem, c0, c1, c2]; try rfl) rfl ⟨rfl, ?_⟩
  have k2 : Kept (fun _ => False) w w1 := (((Kept.refl (fun _ => False) w).alloc _).alloc _).trans K2.out (fun _ _ f => f) (fun _ _ f => f)
  exact ((k2.setCell (fun hh => absurd hh (by simp)) _).setCell (fun hh => absurd hh (by simp)) _).setCell (fun hh => absurd hh (by simp)) _

set_option maxHeartbeats 2000000 in
theorem void_lose (w : World) (v : Value) (x : Act') (h : Void w v) (h0 : 0 ≤ x.kind) (h1 : x.kind < 256) (hk : x.kind % 9 = 8) :
    Calls Try.prog 11 #[v, x.val] w fun e w' => e = .returned (.tuple #[.agg #[.int .i64 0, .int .i64 0, .string ⟨#[]⟩], .bool false]) ∧ Kept (fun _ => False) w w' := by
  have H := Lib.hid h; clear h
  unfold Act'.val
  go_enter Try.func11, Try.ntmps11
  go_wp2_with fail
  have V := H.out.kept (((Kept.refl (fun _ => False) w).alloc (Obj.cells #[.int .u8 x.kind, .int .i64 x.m.f, .int .i64 x.m.t, .string x.m.d, .int .i64 x.i] 35)).alloc (Obj.cells #[.int .i64 0, .int .i64 0, .string ⟨#[]⟩] 31)) (fun _ _ f => f)
  refine (lose_no _ v 0 x.i V.many (nowhere _)).mono ?_
  rintro e w1 ⟨rfl, hw⟩
  have hK := kept_of_eq hw
  clear hw V
  obtain ⟨c0, c1, c2, fz⟩ := hK.cells3 (n := w.heap.size + 1) (fun f => f) (x := .int .i64 0) (y := .int .i64 0) (z := .string ⟨#[]⟩) (by simp [go_sem]) (by simp [go_sem]) (by simp [go_sem]) (by simp [go_sem])
  have K2 := Lib.hid hK; clear hK
  go_wp2
  refine bodyPost_ret (v := .tuple #[.agg #[.int .i64 0, .int .i64 0, .string ⟨#[]⟩], .bool _]) (by simp [results, Try.results11, go_sem, c0, c1, c2]; try rfl) rfl ⟨rfl, ?_⟩
  have k2 : Kept (fun _ => False) w w1 := (((Kept.refl (fun _ => False) w).alloc _).alloc _).trans K2.out (fun _ _ f => f) (fun _ _ f => f)
  exact ((k2.setCell (fun hh => absurd hh (by simp)) _).setCell (fun hh => absurd hh (by simp)) _).setCell (fun hh => absurd hh (by simp)) _

set_option maxHeartbeats 2000000 in
theorem void_send (w : World) (v : Value) (x : Act') (h : Void w v) (h0 : 0 ≤ x.kind) (h1 : x.kind < 256) (hk : x.kind % 9 < 4) :
    Calls Try.prog 11 #[v, x.val] w fun e w' => e = .returned (.tuple #[.agg #[.int .i64 0, .int .i64 0, .string ⟨#[]⟩], .bool false]) ∧ Kept (fun _ => False) w w' := by
  have H := Lib.hid h; clear h
  have hk1 : 0 ≤ x.kind % 9 := by omega
  unfold Act'.val
  go_enter Try.func11, Try.ntmps11
  go_wp2_with fail
  have V := H.out.kept (((Kept.refl (fun _ => False) w).alloc (Obj.cells #[.int .u8 x.kind, .int .i64 x.m.f, .int .i64 x.m.t, .string x.m.d, .int .i64 x.i] 35)).alloc (Obj.cells #[.int .i64 0, .int .i64 0, .string ⟨#[]⟩] 31)) (fun _ _ f => f)
  refine (send_void _ v x.m V.send).mono ?_
  rintro e w1 ⟨rfl, hw⟩
  have hK := hw
  clear hw V
  obtain ⟨c0, c1, c2, fz⟩ := hK.cells3 (n := w.heap.size + 1) (fun f => f) (x := .int .i64 0) (y := .int .i64 0) (z := .string ⟨#[]⟩) (by simp [go_sem]) (by simp [go_sem]) (by simp [go_sem]) (by simp [go_sem])
  have K2 := Lib.hid hK; clear hK
  go_wp2
  refine bodyPost_ret (v := .tuple #[.agg #[.int .i64 0, .int .i64 0, .string ⟨#[]⟩], .bool _]) (by simp [results, Try.results11, go_sem, c0, c1, c2]; try rfl) rfl ⟨rfl, ?_⟩
  have k2 : Kept (fun _ => False) w w1 := (((Kept.refl (fun _ => False) w).alloc _).alloc _).trans K2.out (fun _ _ f => f) (fun _ _ f => f)
  exact ((k2.setCell (fun hh => absurd hh (by simp)) _).setCell (fun hh => absurd hh (by simp)) _).setCell (fun hh => absurd hh (by simp)) _

theorem void_done (w : World) (v : Value) (x : Act') (h : Void w v) (h0 : 0 ≤ x.kind) (h1 : x.kind < 256) :
    Calls Try.prog 11 #[v, x.val] w fun e w' => e = .returned (.tuple #[.agg #[.int .i64 0, .int .i64 0, .string ⟨#[]⟩], .bool false]) ∧ Kept (fun _ => False) w w' := by
  have hlt : x.kind % 9 < 4 ∨ x.kind % 9 = 4 ∨ x.kind % 9 = 5 ∨ x.kind % 9 = 6 ∨ x.kind % 9 = 7 ∨ x.kind % 9 = 8 := by omega
  rcases hlt with hk | hk | hk | hk | hk | hk
  · exact void_send w v x h h0 h1 hk
  · exact void_look w v x h h0 h1 hk
  · exact void_take5 w v x h h0 h1 hk
  · exact void_take6 w v x h h0 h1 hk
  · exact void_double w v x h h0 h1 hk
  · exact void_lose w v x h h0 h1 hk

set_option maxHeartbeats 1000000 in
theorem void_all (w : World) (v : Value) (h : Void w v) : Calls Try.prog 14 #[v] w fun e w' => e = .returned (.slice none 0 0) ∧ w = w' := by
  have H := Lib.hid h; clear h
  go_enter Try.func14, Try.ntmps14
  go_wp2_with (go_at_call 13; refine (len_any _ _ 0 H.out.many).mono ?_; rintro e w' ⟨rfl, rfl⟩)
  go_loopg [3, 9] 0 (fun g u t wr => wr = w ∧ t = .int .i64 0 ∧ u = .slice none 0 0)
  case atStart => exact ⟨rfl, rfl, rfl⟩
  case round =>
    obtain ⟨rfl, rfl, rfl⟩ := hrel
    go_wp2
    go_ret
    exact ⟨rfl, rfl⟩

/-- The zero net. -/
def NS.void : NS := ⟨false, 0, fun _ => Mail.zero, fun _ => 0, fun _ => false⟩
theorem build45v (p : String) (a : Act) (w : World) : (execOp a.eval { dst := some 17, op := Op.build 45 #[], type := 45, pos := p, after := #[], guard := none }).run Try.prog w = .ok (.value (.agg NS.void.cells)) w := by kernel_rfl
theorem NS.void_cell (j : Nat) (hj : j < 2) : NS.void.cells[j]? = some (if j = 0 then .bool false else .int .i64 0) := by
  rw [NS.cells_get _ (by omega)]
  unfold NS.cell
  by_cases h : j = 0
  · rw [if_pos h, if_pos h]; rfl
  · rw [if_neg h, if_pos (by omega), if_neg h]; rfl

/-- What is kept of the act's variable. -/
structure BoxA (w : World) (n : Nat) (k : Int) (x : Act') : Prop where
  c0 : w.cell? ⟨n, 0, none⟩ = some (.int .u8 k)
  c1 : w.cell? ⟨n, 1, none⟩ = some (.int .i64 x.m.f)
  c2 : w.cell? ⟨n, 2, none⟩ = some (.int .i64 x.m.t)
  c3 : w.cell? ⟨n, 3, none⟩ = some (.string x.m.d)
  c4 : w.cell? ⟨n, 4, none⟩ = some (.int .i64 x.i)
  fz : ∀ j, w.frozen? ⟨n, j, none⟩ = false

theorem BoxA.kept {S : Nat → Prop} {w w' : World} {n : Nat} {k : Int} {x : Act'} (h : BoxA w n k x) (hK : Kept S w w') (hS : ¬ S n) : BoxA w' n k x :=
  have hl := World.block_lt_of_cell? _ _ h.c0
  ⟨hK.cell h.c0 hS, hK.cell h.c1 hS, hK.cell h.c2 hS, hK.cell h.c3 hS, hK.cell h.c4 hS, fun j => hK.frozen (h.fz j) hl hS⟩
theorem BoxA.lt {w : World} {n : Nat} {k : Int} {x : Act'} (h : BoxA w n k x) : n < w.heap.size := World.block_lt_of_cell? _ _ h.c0
theorem BoxA.set {w : World} {n : Nat} {k : Int} {x : Act'} (h : BoxA w n k x) (k' : Int) : BoxA (w.setCell ⟨n, 0, none⟩ (.int .u8 k')) n k' x :=
  ⟨by simp [go_sem, h.c0], by simp [go_sem, h.c1], by simp [go_sem, h.c2], by simp [go_sem, h.c3], by simp [go_sem, h.c4], fun j => by simp [h.fz j]⟩

set_option maxHeartbeats 4000000 in
theorem netsNone_any (w : World) (x : Act') (h0 : 0 ≤ x.kind) (h1 : x.kind < 256) (hs : x.m.d.size ≤ 9223372036854775807) :
    Calls Try.prog 4 #[x.val] w fun e w' => e = .returned (.bool true) ∧ Below w.heap.size w w' := by
  have hB := Nat.le_refl w.heap.size
  have hsz : ∀ y ∈ [x], y.m.d.size ≤ 9223372036854775807 := fun y hy => by simp at hy; subst hy; exact hs
  have hrd : ∀ W, Kept (fun _ => False) ((w.alloc (Obj.cells #[.int .u8 x.kind, .int .i64 x.m.f, .int .i64 x.m.t, .string x.m.d, .int .i64 x.i] 35)).alloc (Obj.cells #[.int .u8 x.kind, .int .i64 x.m.f, .int .i64 x.m.t, .string x.m.d, .int .i64 x.i] 35)) W → ReadsA W (.slice (some ⟨w.heap.size + 1, 0, none⟩) 1 1) [x] := fun W hK =>
    ⟨_, 1, rfl, .inr ⟨w.heap.size + 1, 0, rfl, fun j u hu => by
      refine hK.cell ?_ (fun f => f)
      rw [Nat.zero_add, cell_of_row _ _ j _ 35 (0, 0) (heap_second w _ _), ← Array.getElem?_toList]
      exact hu⟩⟩
  have RD := Lib.hid (hrd _ (Kept.refl _ _)); clear hrd
  have bx : BoxA ((w.alloc (Obj.cells #[.int .u8 x.kind, .int .i64 x.m.f, .int .i64 x.m.t, .string x.m.d, .int .i64 x.i] 35)).alloc (Obj.cells #[.int .u8 x.kind, .int .i64 x.m.f, .int .i64 x.m.t, .string x.m.d, .int .i64 x.i] 35)) w.heap.size x.kind x :=
    ⟨by simp [go_sem], by simp [go_sem], by simp [go_sem], by simp [go_sem], by simp [go_sem], fun j => by simp [go_sem]⟩
  have BX := Lib.hid bx; clear bx
  have hs31 := s31
  have hg31 := g31
  have SZ := Lib.hid hsz; clear hsz
  unfold Act'.val
  cases hg : greatB [x] with
  | true =>
    go_enter Try.func4, Try.ntmps4
    go_wp2_with fail
    refine (great_any _ _ [x] RD.out (by simp) SZ.out).mono ?_
    rintro e w1 ⟨rfl, rfl⟩
    rw [hg]
    go_wp2
    go_ret
    exact ⟨rfl, ((Below.refl _ _).alloc' hB _).alloc' hB _⟩
  | false =>
    go_enter Try.func4, Try.ntmps4
    go_wp2_with fail
    refine (great_any _ _ [x] RD.out (by simp) SZ.out).mono ?_
    rintro e w1 ⟨rfl, rfl⟩
    rw [hg]
    clear hg
    go_wp2_with fail
    go_loopg [3] 2 (fun g t wr => ∃ i : Nat, i + g = 2 ∧ t = .int .i64 i ∧ Below w.heap.size w wr ∧ ∃ kd, BoxA wr w.heap.size kd x)
    case atStart => exact ⟨0, rfl, rfl, ((Below.refl _ _).alloc' hB _).alloc' hB _, _, BX.out⟩
    case round =>
      obtain ⟨i, hi, rfl, hG, kd, hbx⟩ := hrel
      have I := Lib.hid hi; have G := Lib.hid hG; have B1 := Lib.hid hbx
      clear hi hG hbx
      have hi3 : i = 0 ∨ i = 1 ∨ i = 2 := by have := I.out; omega
      rcases hi3 with rfl | rfl | rfl
      · go_wp2_with fail
        go_loopg [5] 9 (fun g t ws => ∃ k : Nat, k + g = 9 ∧ t = .int .i64 k ∧ Below w.heap.size w ws ∧ Void ws (.pointer none) ∧ ∃ kd, BoxA ws w.heap.size kd x)
        case atStart => exact ⟨0, rfl, rfl, G.out, .inl rfl, _, B1.out⟩
        case round =>
          obtain ⟨k, hk, rfl, hG, hv, kd, hbx⟩ := hrel
          have J := Lib.hid hk; have G := Lib.hid hG; have V := Lib.hid hv; have B1 := Lib.hid hbx
          have bf := hbx.fz 0
          obtain ⟨b0, b1, b2, b3, b4, _⟩ := hbx
          clear hk hG hv
          have hk9 : k ≤ 9 := by have := J.out; omega
          by_cases hlt : k < 9
          · have hw8 : IntKind.u8.wrap (k : Int) = (k : Int) := by simp [IntKind.wrap, IntKind.signed, IntKind.bits]; omega
            go_wp2_with fail
            refine (void_done _ _ ⟨k, x.m, x.i⟩ ?_ (by simp) (by simp; omega)).mono ?_
            · exact V.out.kept ((Kept.refl (fun k => k = w.heap.size) _).setCell (fun _ => rfl) _) (fun q hq => by cases hq)
            rintro e w2 ⟨rfl, hK⟩
            have B2 := Lib.hid ((B1.out.set k).kept hK (fun f => f))
            have V2 := Lib.hid ((V.out.kept ((Kept.refl (fun k => k = w.heap.size) _).setCell (fun _ => rfl) _) (fun q hq => by cases hq)).kept hK (fun _ _ f => f))
            have G2 := Lib.hid (Below.step (Below.step G.out hB ((Kept.refl (fun k => k = w.heap.size) _).setCell (p := ⟨w.heap.size, 0, none⟩) (fun _ => rfl) (.int .u8 k)) (fun i e => by omega)) hB hK (fun _ f => f.elim))
            clear hK b0 b1 b2 b3 b4 bf
            go_wp2
            go_roundg (gk - 1)
            case measure => have := J.out; omega
            case rel => exact ⟨k + 1, by have := J.out; omega, by go_num, G2.out.alloc' hB _, V2.out.kept ((Kept.refl (fun _ => False) _).alloc _) (fun _ _ f => f), _, B2.out.kept ((Kept.refl (fun _ => False) _).alloc _) (fun f => f)⟩
          · go_wp2_with (first | (go_at_call 13; refine (len_any _ _ 0 V.out.many).mono ?_; rintro e w2 ⟨rfl, rfl⟩) | (go_at_call 14; refine (void_all _ _ V.out).mono ?_; rintro e w2 ⟨rfl, rfl⟩))
            go_roundg (2 - 1)
            case measure => have := I.out; omega
            case rel => exact ⟨1, by omega, by go_num, G.out, _, B1.out⟩
      · have hwr := B1.out.lt
        go_wp2_with (refine wpList_value rfl _ (build45v _ _ _) ?_)
        go_loopg [5] 9 (fun g t ws => ∃ k : Nat, k + g = 9 ∧ t = .int .i64 k ∧ Below w.heap.size w ws ∧ Void ws (.pointer (some ⟨wr.heap.size, 0, none⟩)) ∧ ∃ kd, BoxA ws w.heap.size kd x)
        case atStart => exact ⟨0, rfl, rfl, G.out.alloc' hB _, .inr ⟨wr.heap.size, rfl, by simp [World.cell?_alloc_new, NS.void_cell 0 (by omega)], by simp [World.cell?_alloc_new, NS.void_cell 1 (by omega)]⟩, _, B1.out.kept ((Kept.refl (fun _ => False) _).alloc _) (fun f => f)⟩
        case round =>
          obtain ⟨k, hk, rfl, hG, hv, kd, hbx⟩ := hrel
          have J := Lib.hid hk; have G := Lib.hid hG; have V := Lib.hid hv; have B1 := Lib.hid hbx
          have bf := hbx.fz 0
          obtain ⟨b0, b1, b2, b3, b4, _⟩ := hbx
          clear hk hG hv
          have hk9 : k ≤ 9 := by have := J.out; omega
          by_cases hlt : k < 9
          · have hw8 : IntKind.u8.wrap (k : Int) = (k : Int) := by simp [IntKind.wrap, IntKind.signed, IntKind.bits]; omega
            go_wp2_with fail
            refine (void_done _ _ ⟨k, x.m, x.i⟩ ?_ (by simp) (by simp; omega)).mono ?_
            · exact V.out.kept ((Kept.refl (fun k => k = w.heap.size) _).setCell (fun _ => rfl) _) (fun q hq => by have e := Option.some.inj hq; simp at e; omega)
            rintro e w2 ⟨rfl, hK⟩
            have B2 := Lib.hid ((B1.out.set k).kept hK (fun f => f))
            have V2 := Lib.hid ((V.out.kept ((Kept.refl (fun k => k = w.heap.size) _).setCell (fun _ => rfl) _) (fun q hq => by have e := Option.some.inj hq; simp at e; omega)).kept hK (fun _ _ f => f))
            have G2 := Lib.hid (Below.step (Below.step G.out hB ((Kept.refl (fun k => k = w.heap.size) _).setCell (p := ⟨w.heap.size, 0, none⟩) (fun _ => rfl) (.int .u8 k)) (fun i e => by omega)) hB hK (fun _ f => f.elim))
            clear hK b0 b1 b2 b3 b4 bf
            go_wp2
            go_roundg (gk - 1)
            case measure => have := J.out; omega
            case rel => exact ⟨k + 1, by have := J.out; omega, by go_num, G2.out.alloc' hB _, V2.out.kept ((Kept.refl (fun _ => False) _).alloc _) (fun _ _ f => f), _, B2.out.kept ((Kept.refl (fun _ => False) _).alloc _) (fun f => f)⟩
          · go_wp2_with (first | (go_at_call 13; refine (len_any _ _ 0 V.out.many).mono ?_; rintro e w2 ⟨rfl, rfl⟩) | (go_at_call 14; refine (void_all _ _ V.out).mono ?_; rintro e w2 ⟨rfl, rfl⟩))
            go_roundg (2 - 2)
            case measure => have := I.out; omega
            case rel => exact ⟨2, by omega, by go_num, G.out, _, B1.out⟩
      · go_wp2_with fail
        refine (does_any _).mono ?_
        rintro e w2 ⟨rfl, hK⟩
        go_wp2
        go_ret
        exact ⟨rfl, Below.step G.out hB hK (fun _ f => f.elim)⟩
end Go.Proofs.Ytgafedmabaeemaa
