/- The walks over the reference's net (spoorref07): a list of messages in a slice of its own. -/
import Derived.Test.YtgafedmabaeemaaWalksD
namespace Go.Proofs.Ytgafedmabaeemaa
open Go.RowKit

/-- append to an owned row, at one step of a region, from whatever slice. -/
theorem step_app {P : Program} {ops : Array Oper} {o : Oper} {a : Act} {w : World} {K : Act → World → Prop} {Q : Exit → Act → World → Prop} {E : Prop} (hgd : o.guard = none) (s x : Operand) (t : TypeId)
    (ho : o.op = .call { callee := .builtin .append, args := #[s, x], argTypes := #[t, t] })
    (base : Nat) (e : TypeId) (i : TypeInfo) (z : Value) (size bytes : Nat) (ht : P.underlying t = some (.slice e)) (hi : P.info? e = some i) (hz : i.zero = some z)
    (hsize : i.size = size) (hby : i.bytes = bytes) (hzs : z.cells.size = size) (hsz : 0 < size)
    (v : Value) (n : Nat) (xs : List Value) (hs : a.eval s = v) (hown : w.ownsRow base e size v n xs)
    (ad : Addr) (m c : Nat) (news : List Value) (hx : a.eval x = .slice (some ad) m c) (hl : news.length = m * size) (hnews : ∀ j u, news[j]? = some u → w.cell? (ad.add j) = some u) (h1 : ∀ u ∈ news, u.oneCell' = true)
    (h63 : n + m ≤ maxLen) (hbytes : (n + m) * bytes ≤ 140737488355328) (hbase : base ≤ w.heap.size)
    (h : ∀ ao' cap' w', w'.ownsRow base e size (.slice ao' (n + m) cap') (n + m) (xs ++ news) → w.grownBy w' v.ownBlock → ((Value.slice ao' (n + m) cap').ownBlock = v.ownBlock ∨ (Value.slice ao' (n + m) cap').ownBlock = some w.heap.size) → K (a.put o.dst (.slice ao' (n + m) cap')) w') :
    if Region.wanted o (yielded ops a.tmps) = true then Oper.wp P o a w K Q else E := by
  rw [if_pos (by simp [Region.wanted, hgd])]
  obtain ⟨v', w', hr, h2, h3, _, h5⟩ := run_append_own_at (P := P) w base t o.type e i z size bytes ht hi hz hsize hby hzs hsz v n xs hown ad m c news hl hnews h1 h63 hbytes hbase
  unfold Oper.wp execOp
  simp only [ho, resolve, invoke, builtin, Sem.run_bind, Sem.run_pure, Result.andThen_ok, List.map_toArray, List.map_cons, List.map_nil, hs, hx, hr]
  have hf : ∃ ao' cap', v' = .slice ao' (n + m) cap' := by
    rcases h2.2 with ⟨rfl, hn⟩ | ⟨g, cap, cur, rfl, _⟩
    · exact ⟨none, 0, by rw [hn]⟩
    · exact ⟨_, _, rfl⟩
  obtain ⟨ao', cap', rfl⟩ := hf
  exact h ao' cap' w' h2 h3 h5

/-- The reference's net in block r: its list in the slice v. -/
structure RefOk (w : World) (base r : Nat) (v : Value) (L : List Mail) : Prop where
  cell : w.heap[r]? = some (.cells #[v] 29 (0, 0))
  row : w.ownsRow base 31 3 v L.length (cellsL L)
  apart : v.ownBlock ≠ some r
  le : L.length ≤ 64

theorem RefOk.lt {w : World} {base r : Nat} {v : Value} {L : List Mail} (h : RefOk w base r v L) : r < w.heap.size := (Array.getElem?_eq_some_iff.1 h.cell).1
theorem RefOk.read {w : World} {base r : Nat} {v : Value} {L : List Mail} (h : RefOk w base r v L) : w.cell? ⟨r, 0, none⟩ = some v := by simp [World.cell?, h.cell]
theorem RefOk.frozen {w : World} {base r : Nat} {v : Value} {L : List Mail} (h : RefOk w base r v L) (j : Nat) : w.frozen? ⟨r, j, none⟩ = false := by simp [World.frozen?, h.cell]
theorem RefOk.kept {S : Nat → Prop} {w w' : World} {base r : Nat} {v : Value} {L : List Mail} (h : RefOk w base r v L) (hK : Kept S w w') (h1 : ¬ S r) (h2 : ∀ k, v.ownBlock = some k → ¬ S k) : RefOk w' base r v L :=
  ⟨(hK.block r h.lt h1).trans h.cell, h.row.keptBy hK h2, h.apart, h.le⟩

/-- What an owned row's value looks like. -/
theorem row_form {w : World} {base : Nat} {e : TypeId} {size : Nat} {v : Value} {n : Nat} {xs : List Value} (h : w.ownsRow base e size v n xs) :
    (v = .slice none 0 0 ∧ n = 0) ∨ ∃ g cap, v = .slice (some ⟨g, 0, none⟩) n cap ∧ n ≤ cap ∧ base ≤ g ∧ g < w.heap.size ∧ ∀ j u, xs[j]? = some u → w.cell? ⟨g, j, none⟩ = some u := by
  rcases h.2 with h2 | ⟨g, cap, cur, rfl, hb, hgg, hle, hrest⟩
  · exact .inl h2
  · refine .inr ⟨g, cap, rfl, hle, hb, (Array.getElem?_eq_some_iff.1 hgg).1, fun j u hu => ?_⟩
    have := h.cells (g := g) rfl j u hu
    have hadd : (⟨g, 0, none⟩ : Addr).add j = ⟨g, j, none⟩ := by unfold Addr.add; split <;> simp_all
    rwa [hadd] at this

theorem cellsL_get : ∀ (L : List Mail) (i : Nat) (m : Mail), L[i]? = some m → (cellsL L)[i * 3]? = some (.int .i64 m.f) ∧ (cellsL L)[i * 3 + 1]? = some (.int .i64 m.t) ∧ (cellsL L)[i * 3 + 2]? = some (.string m.d)
  | [], i, m, h => by simp at h
  | x :: l, 0, m, h => by simp at h; subst h; exact ⟨rfl, rfl, rfl⟩
  | x :: l, i + 1, m, h => by
    have := cellsL_get l i m (by simpa using h)
    rw [show (i + 1) * 3 = i * 3 + 3 by omega]
    exact this

set_option maxHeartbeats 400000 in
theorem is_yes (w : World) (base r : Nat) (v : Value) (L : List Mail) (i : Nat) (h : RefOk w base r v L) (hi : i < L.length) :
    Calls Try.prog 29 #[.pointer (some ⟨r, 0, none⟩), .int .i64 i] w fun e w' => e = .returned (.bool true) ∧ w = w' := by
  have hr := h.read
  have hle := h.le
  rcases row_form h.row with ⟨rfl, hn⟩ | ⟨g, cap, rfl, hc, _, _, _⟩
  · omega
  · clear h
    go_enter Try.func29, Try.ntmps29
    go_wp2
    go_ret
    exact ⟨rfl, rfl⟩

set_option maxHeartbeats 400000 in
theorem is_no (w : World) (base r : Nat) (v : Value) (L : List Mail) (i : Int) (h : RefOk w base r v L) (hi : i < 0 ∨ (L.length : Int) ≤ i) :
    Calls Try.prog 29 #[.pointer (some ⟨r, 0, none⟩), .int .i64 i] w fun e w' => e = .returned (.bool false) ∧ w = w' := by
  have hr := h.read
  have hle := h.le
  have hf : ∃ ao cap, v = .slice ao L.length cap := by
    rcases row_form h.row with ⟨rfl, hn⟩ | ⟨g, cap, rfl, hc, _, _, _⟩
    · exact ⟨none, 0, by rw [hn]⟩
    · exact ⟨_, _, rfl⟩
  obtain ⟨ao, cap, rfl⟩ := hf
  clear h
  by_cases h0 : i < 0
  · clear hi
    go_enter Try.func29, Try.ntmps29
    go_wp2
    go_ret
    exact ⟨rfl, rfl⟩
  · have h1 : (L.length : Int) ≤ i := by omega
    have h2 : 0 ≤ i := by omega
    have hd : decide (i < (L.length : Int)) = false := by simp; omega
    clear hi h0
    go_enter Try.func29, Try.ntmps29
    go_wp2
    go_ret
    exact ⟨rfl, rfl⟩

set_option maxHeartbeats 1000000 in
theorem rlook_no (w : World) (base r : Nat) (v : Value) (L : List Mail) (i : Int) (h : RefOk w base r v L) (hi : i < 0 ∨ (L.length : Int) ≤ i) :
    Calls Try.prog 22 #[.pointer (some ⟨r, 0, none⟩), .int .i64 i] w fun e w' => e = .returned (.tuple #[Mail.zero.val, .bool false]) ∧ Kept (fun _ => False) w w' := by
  have H := Lib.hid h; have I := Lib.hid hi; clear h hi
  go_enter Try.func22, Try.ntmps22
  go_wp2_with (go_at_call 29; refine (is_no _ base r v L i (H.out.kept ((Kept.refl (fun _ => False) _).alloc _) (fun f => f) (fun _ _ f => f)) I.out).mono ?_; rintro e w' ⟨rfl, rfl⟩)
  refine bodyPost_ret (v := .tuple #[Mail.zero.val, .bool false]) (by simp [results, Try.results22, go_sem, Mail.val, Mail.zero]) rfl ⟨rfl, ?_⟩
  exact (Kept.refl _ _).alloc _

set_option maxHeartbeats 1000000 in
theorem rlook_at (w : World) (base r : Nat) (v : Value) (L : List Mail) (i : Nat) (m : Mail) (h : RefOk w base r v L) (hm : L[i]? = some m) :
    Calls Try.prog 22 #[.pointer (some ⟨r, 0, none⟩), .int .i64 i] w fun e w' => e = .returned (.tuple #[m.val, .bool true]) ∧ Kept (fun _ => False) w w' := by
  have hi := lt_of_get hm
  have hlt := h.lt
  have hr := h.read
  have hle := h.le
  have H := Lib.hid h
  rcases row_form h.row with ⟨rfl, hn⟩ | ⟨g, cap, rfl, hc, _, hg, hcell⟩
  · omega
  · obtain ⟨q0, q1, q2⟩ := cellsL_get L i m hm
    have c0 := hcell _ _ q0
    have c1 := hcell _ _ q1
    have c2 := hcell _ _ q2
    clear h hm q0 q1 q2 hcell
    go_enter Try.func22, Try.ntmps22
    go_wp2_with (go_at_call 29; refine (is_yes _ base r _ L i (H.out.kept ((Kept.refl (fun _ => False) _).alloc _) (fun f => f) (fun _ _ f => f)) hi).mono ?_; rintro e w' ⟨rfl, rfl⟩)
    refine bodyPost_ret (v := .tuple #[m.val, .bool true]) (by simp [results, Try.results22, go_sem, Mail.val]) rfl ⟨rfl, ?_⟩
    exact (Kept.refl _ _).alloc _
end Go.Proofs.Ytgafedmabaeemaa
