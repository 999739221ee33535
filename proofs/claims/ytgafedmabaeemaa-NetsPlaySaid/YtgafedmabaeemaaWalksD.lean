/- The walks over package nets, fourth part: Double, New, All. -/
import Derived.Test.YtgafedmabaeemaaWalksC
import Derived.Deep.AppendLies
namespace Go.Proofs.Ytgafedmabaeemaa
open Go.RowKit

set_option maxHeartbeats 1000000 in
theorem double_no (w : World) (v : Value) (n : Nat) (i : Int) (h : Many w v n) (hi : i < 0 ∨ (n : Int) ≤ i) :
    Calls Try.prog 18 #[v, .int .i64 i] w fun e w' => e = .returned (.bool false) ∧ w = w' := by
  have H := Lib.hid h; have I := Lib.hid hi; clear h hi
  go_enter Try.func18, Try.ntmps18
  go_wp2_with (go_at_call 27; refine (ahead_no v _ n i H.out I.out).mono ?_; rintro e w' ⟨rfl, rfl⟩)
  go_ret
  exact ⟨rfl, rfl⟩

set_option maxHeartbeats 1000000 in
theorem double_at (w : World) (b : Nat) (L : List Mail) (i : Nat) (m : Mail) (h : NetOk w b L) (hm : L[i]? = some m) :
    Calls Try.prog 18 #[.pointer (some ⟨b, 0, none⟩), .int .i64 i] w fun e w' => e = .returned (.bool (roomB L)) ∧ NetOk w' b (putL L (i + 1) m) ∧ Kept (fun k => k = b) w w' := by
  obtain ⟨s, p, hN, hC⟩ := h
  have hlt := hN.lt
  have hi := lt_of_get hm
  have em : m = s.mail (p (i + 1)) := by have hm' := hC.mail i hi; rw [hm] at hm'; exact Option.some.inj hm'
  clear hm
  have hnx := hC.next i (by omega)
  have hpi : p i < 65 := by have := hC.hi i; omega
  have hq : p (i + 1) < 65 := by have := hC.hi (i + 1); omega
  have hn : w.cell? ⟨b, 2 + p i * 5 + 3, none⟩ = some (.int .i64 (p (i + 1))) := by
    rw [hN.field (k := p i) (i := 3) hpi (by omega)]; simp only [NS.field, hnx]
  have f0 : w.cell? ⟨b, 2 + p (i + 1) * 5, none⟩ = some (.int .i64 (s.mail (p (i + 1))).f) := hN.field (k := p (i + 1)) (i := 0) hq (by omega)
  have f1 : w.cell? ⟨b, 2 + p (i + 1) * 5 + 1, none⟩ = some (.int .i64 (s.mail (p (i + 1))).t) := hN.field (k := p (i + 1)) (i := 1) hq (by omega)
  have f2 : w.cell? ⟨b, 2 + p (i + 1) * 5 + 2, none⟩ = some (.string (s.mail (p (i + 1))).d) := hN.field (k := p (i + 1)) (i := 2) hq (by omega)
  rw [← em] at f0 f1 f2
  clear em hnx
  have N := Lib.hid hN; have C := Lib.hid hC; clear hN hC
  go_enter Try.func18, Try.ntmps18
  go_wp2_with fail
  refine (ahead_at _ b s p L i N.out C.out hi).mono ?_
  rintro e w' ⟨rfl, rfl⟩
  go_wp2_with fail
  refine (put_any _ b s p L (i + 1) m N.out C.out (by omega)).mono ?_
  rintro e w' ⟨rfl, h2, h3⟩
  have H2 := Lib.hid h2; have H3 := Lib.hid h3; clear h2 h3
  go_wp2
  go_ret
  exact ⟨rfl, H2.out, H3.out⟩

def NS.fresh : NS := ⟨true, 0, fun _ => Mail.zero, fun _ => 0, fun _ => false⟩
theorem NS.fresh_chain : Chain NS.fresh (fun _ => 0) [] :=
  ⟨rfl, rfl, by simp, rfl, fun _ _ => rfl, fun j h1 h2 => by simp at h2; omega, fun _ => by omega, fun i j h1 h2 _ => by simp at h1 h2; omega, fun _ _ => rfl, fun k _ _ => ⟨fun h => by simp [NS.fresh] at h, fun ⟨j, h1, h2, _⟩ => by simp at h2; omega⟩, fun j h => by simp at h⟩

/-- An operation whose value is known. -/
theorem wpList_value {P : Program} {ops : Array Oper} {Q : Exit → Act → World → Prop} {a : Act} {w : World} {rest : List Oper} {o : Oper} (hg : o.guard = none) (v : Value)
    (h : (execOp a.eval o).run P w = .ok (.value v) w) (k : wpList P ops Q rest (a.put o.dst v) w) : wpList P ops Q (o :: rest) a w :=
  wpList_plain hg fun K hK => by unfold Oper.wp; rw [h]; exact hK _ _ k

theorem build45 (p : String) (a : Act) (w : World) : (execOp a.eval { dst := some 1, op := Op.build 45 #[(0, Operand.const (Value.bool true))], type := 45, pos := p, after := #[], guard := none }).run Try.prog w = .ok (.value (.agg NS.fresh.cells)) w := by kernel_rfl
set_option maxHeartbeats 1000000 in
set_option maxRecDepth 100000 in
theorem new_any (w : World) : Calls Try.prog 10 #[] w fun e w' => e = .returned (.pointer (some ⟨w.heap.size, 0, none⟩)) ∧ NetOk w' w.heap.size [] ∧ Kept (fun _ => False) w w' := by
  go_enter Try.func10, Try.ntmps10
  go_wp2_with (refine wpList_value rfl _ (build45 _ _ _) ?_)
  go_ret
  exact ⟨rfl, ⟨NS.fresh, _, heap_alloc_new w _, NS.fresh_chain⟩, (Kept.refl _ _).alloc _⟩

/-- The cells of messages, one behind the other. -/
def cellsL : List Mail → List Value
  | [] => []
  | m :: l => .int .i64 m.f :: .int .i64 m.t :: .string m.d :: cellsL l
theorem cellsL_length : ∀ L, (cellsL L).length = L.length * 3
  | [] => rfl
  | m :: l => by simp [cellsL, cellsL_length l]; omega
theorem cellsL_append : ∀ a b, cellsL (a ++ b) = cellsL a ++ cellsL b
  | [], b => rfl
  | m :: l, b => by simp [cellsL, cellsL_append l b]

theorem _root_.Go.World.ownsRow.keptBy {w w' : World} {base : Nat} {e : TypeId} {size : Nat} {v : Value} {n : Nat} {xs : List Value} {S : Nat → Prop} (h : w.ownsRow base e size v n xs) (hK : Kept S w w') (hS : ∀ k, v.ownBlock = some k → ¬ S k) : w'.ownsRow base e size v n xs := by
  refine ⟨h.1, ?_⟩
  rcases h.2 with hn | ⟨g, cap, cur, rfl, hb, hgg, rest⟩
  · exact .inl hn
  · exact .inr ⟨g, cap, cur, rfl, hb, (hK.block g (Array.getElem?_eq_some_iff.1 hgg).1 (hS g rfl)).trans hgg, rest⟩

theorem Try.info31 : (Try.prog.info? 31).map (fun i => (i.zero, i.size, i.bytes)) = some (some (.agg #[.int .i64 0, .int .i64 0, .string ⟨#[]⟩]), 3, 32) := by kernel_rfl

set_option maxHeartbeats 2000000 in
theorem all_at (w : World) (b : Nat) (L : List Mail) (h : NetOk w b L) :
    Calls Try.prog 14 #[.pointer (some ⟨b, 0, none⟩)] w fun e w' => ∃ v, e = .returned v ∧ w'.ownsRow w.heap.size 31 3 v L.length (cellsL L) ∧ Kept (fun _ => False) w w' := by
  obtain ⟨i0, hi0, hz0, hz1, hz2⟩ := info_parts Try.info31
  have hle := h.le
  have hM := h.many
  have H := Lib.hid h; have M := Lib.hid hM; clear h hM
  go_enter Try.func14, Try.ntmps14
  go_wp2_with fail
  refine (len_any _ _ _ M.out).mono ?_
  rintro e w' ⟨rfl, rfl⟩
  go_wp2_with fail
  go_loopg [3, 4, 5, 6, 9] L.length (fun g v t4 t5 t6 k wr => ∃ n : Nat, n + g = L.length ∧ k = .int .i64 n ∧ wr.ownsRow w.heap.size 31 3 v n (cellsL (L.take n)) ∧ Kept (fun _ => False) w wr)
  case atStart => exact ⟨0, by omega, rfl, World.ownsRow_nil _ _ _ _, Kept.refl _ _⟩
  case round =>
    obtain ⟨n, hn, rfl, hown, hK⟩ := hrel
    have hn1 : n ≤ L.length := by omega
    have J := Lib.hid hn; have O := Lib.hid hown; have K := Lib.hid hK
    clear hn hown hK
    by_cases hlt : n < L.length
    · go_wp2_with fail
      refine (look_at _ b L n L[n] (H.out.kept K.out (fun f => f)) (List.getElem?_eq_getElem hlt)).mono ?_
      rintro e w1 ⟨rfl, hK1⟩
      have K1 := Lib.hid hK1; clear hK1
      unfold Mail.val
      have hown1 : w1.ownsRow w.heap.size 31 3 u3 n (cellsL (L.take n)) := O.out.keptBy K1.out (fun _ _ f => f)
      have hsz : w.heap.size ≤ w1.heap.size := Nat.le_trans K.out.size K1.out.size
      go_wp2_with (at_builtin; refine wpList_append_own _ rfl _ _ 27 rfl w.heap.size 31 i0 _ 3 32 Try.underlying27 hi0 hz0 hz1 hz2 rfl (by decide) _ n _ rfl ((hown1.alloc _).alloc _) ⟨w1.heap.size + 1, 0, none⟩ 1 1 [.int .i64 L[n].f, .int .i64 L[n].t, .string L[n].d] rfl rfl ?c1 ?c2 ?c3 ?c4 ?c5 ?_)
      case c1 => exact World.news_of_block (by have := heap_alloc_new (w1.alloc (Obj.cells #[Value.int IntKind.i64 L[n].f, Value.int IntKind.i64 L[n].t, Value.string L[n].d] 31)) (Obj.cells #[Value.int IntKind.i64 L[n].f, Value.int IntKind.i64 L[n].t, Value.string L[n].d] 31); simpa using this)
      case c2 => intro u hu; simp at hu; rcases hu with rfl | rfl | rfl <;> rfl
      case c3 => unfold maxLen; omega
      case c4 => omega
      case c5 => simp; omega
      intro v' w2 hown2 hgr _
      have e1 : cellsL (L.take (n + 1)) = cellsL (L.take n) ++ [.int .i64 L[n].f, .int .i64 L[n].t, .string L[n].d] := by
        rw [List.take_succ_eq_append_getElem hlt, cellsL_append]; rfl
      rw [← e1] at hown2
      have hKn : Kept (fun _ => False) w w2 := by
        refine ((((K.out.trans K1.out (T := fun _ => False) (fun _ _ f => f) (fun _ _ f => f)).alloc _).alloc _).grown hgr fun k hk hlt' => ?_)
        have := (hown1.lt k hk).1
        omega
      have O2 := Lib.hid hown2; have K2 := Lib.hid hKn; clear hown2 hKn hgr hown1 e1
      go_wp2
      go_roundg (gk - 1)
      case measure => have := J.out; omega
      case rel => exact ⟨n + 1, by have := J.out; omega, by go_num, O2.out, K2.out⟩
    · go_wp2_with fail
      go_ret
      obtain rfl : n = L.length := by omega
      exact ⟨_, rfl, by have := O.out; rwa [List.take_length] at this, K.out⟩
end Go.Proofs.Ytgafedmabaeemaa
