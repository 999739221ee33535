/- Structs of many cells that are loaded and stored whole; spans that change places in a row of one's own. -/
import Derived.Test.YtjidldbolbjdpaaCmp
import Derived.Deep.MidRow
namespace Go.Proofs.Ytjidldbolbjdpaa
open Go.RowKit

theorem own_keptS {S : Nat → Prop} {w w' : World} {base e size : Nat} {v : Value} {n : Nat} {xs : List Value} (h : w.ownsRow base e size v n xs) (hK : Kept S w w') (hv : ∀ b, v.ownBlock = some b → ¬ S b) : w'.ownsRow base e size v n xs := by
  obtain ⟨h1, h2⟩ := h
  refine ⟨h1, ?_⟩
  rcases h2 with h2 | ⟨g, cap, cur, rfl, hb, hg, rest⟩
  · exact .inl h2
  · exact .inr ⟨g, cap, cur, rfl, hb, (hK.block g (Array.getElem?_eq_some_iff.1 hg).1 (hv g rfl)).trans hg, rest⟩

section
variable {P : Program} {ops : Array Oper} {o : Oper} {a : Act} {w : World} {K : Act → World → Prop} {Q : Exit → Act → World → Prop} {E : Prop}
theorem step_load (hgd : o.guard = none) (ty : TypeId) (x : Operand) (ho : o.op = .load ty x) (b f : Nat) (hx : a.eval x = .pointer (some ⟨b, f, none⟩)) (cs : List Value) (d : TypeDesc) (hc : w.rangeAt b f cs)
    (hu : P.underlying ty = some d) (hd : d.isRow = true) (hi : (P.info? ty).map (·.size) = some cs.length) (h : K (a.put o.dst (.agg cs.toArray)) w) :
    if Region.wanted o (yielded ops a.tmps) = true then Oper.wp P o a w K Q else E := by
  rw [if_pos (by simp [Region.wanted, hgd])]
  exact wp_load_mid ty x ho b f hx cs d hc hu hd hi h
theorem step_store (hgd : o.guard = none) (ty : TypeId) (x y : Operand) (ho : o.op = .store ty x y) (b f : Nat) (cs : List Value) (hx : a.eval x = .pointer (some ⟨b, f, none⟩)) (hy : a.eval y = .agg cs.toArray)
    (ht : w.there b f cs.length) (hi : (P.info? ty).map (·.size) = some cs.length) (h1 : cs.toArray.all (·.oneCell') = true) (h : K (a.put o.dst undef) (w.setCells b f cs)) :
    if Region.wanted o (yielded ops a.tmps) = true then Oper.wp P o a w K Q else E := by
  rw [if_pos (by simp [Region.wanted, hgd])]
  exact wp_store_mid ty x y ho b f cs.toArray hx hy (by simpa using ht) (by simpa using hi) h1 h
end

theorem wpAny_last {P : Program} {ops : Array Oper} {md : Region.Mode} {Q : Exit → Act → World → Prop} {i n : Nat} {o : Oper} {listed : Array Bool} {a : Act} {w : World} (hr : Region.ready md ops listed = [i]) (ho : ops[i]? = some o) (hn : Region.ready md ops (listed.setIfInBounds i true) = [])
    (h : ∀ K : Act → World → Prop, Hid (∀ a w, Q .normal a w → K a w) → if Region.wanted o (yielded ops a.tmps) = true then Oper.wp P o a w K Q else K (a.put o.dst undef) w) : wpAny P md ops Q (n + 1) listed a w :=
  wpAny_ready hr (by simp) (AllReady.cons ho (fun K hK => h K (Lib.hid (fun a w hq => hK a w (wpAny_done hn hq n)))) AllReady.nil)
theorem Kept.setCells {S : Nat → Prop} {a : World} {g : Nat} (hg : g < a.heap.size → S g) : ∀ (vs : List Value) (f : Nat) {w : World}, Kept S a w → Kept S a (w.setCells g f vs)
  | [], _, _, h => h
  | v :: r, f, _, h => Kept.setCells hg r (f + 1) (h.setCell (p := ⟨g, f, none⟩) hg v)
def setL : List Value → Nat → List Value → List Value
  | xs, _, [] => xs
  | xs, f, v :: r => setL (xs.set f v) (f + 1) r
theorem own_setL {base e size g n cap : Nat} : ∀ (vs : List Value) (f : Nat) {w : World} {xs : List Value}, w.ownsRow base e size (.slice (some ⟨g, 0, none⟩) n cap) n xs → (w.setCells g f vs).ownsRow base e size (.slice (some ⟨g, 0, none⟩) n cap) n (setL xs f vs)
  | [], _, _, _, h => h
  | v :: r, f, _, _, h => own_setL r (f + 1) (h.stored f v).1
theorem setL_append : ∀ (vs : List Value) (a xs : List Value) (f : Nat), setL (a ++ xs) (a.length + f) vs = a ++ setL xs f vs
  | [], _, _, _ => rfl
  | v :: r, a, xs, f => by
    simp only [setL]
    rw [List.set_append_right _ _ (by omega), show a.length + f - a.length = f by omega, show a.length + f + 1 = a.length + (f + 1) by omega]
    exact setL_append r a _ (f + 1)
theorem setL_spans : ∀ (L : List Spn) (i : Nat) (m : Spn), i < L.length → setL (cellsS L) (i * 8) m.cells = cellsS (L.set i m)
  | [], _, _, h => by simp at h
  | x :: t, 0, m, _ => by simp [cellsS, Spn.cells, setL]
  | x :: t, i + 1, m, h => by
    have e : (i + 1) * 8 = x.cells.length + i * 8 := by simp [Spn.cells]; omega
    rw [cellsS, e, setL_append, setL_spans t i m (by simpa using h)]
    rfl
theorem own_set {w : World} {base g n cap : Nat} {L : List Spn} (h : w.ownsRow base 24 8 (.slice (some ⟨g, 0, none⟩) n cap) n (cellsS L)) {i : Nat} (m : Spn) (hi : i < L.length) :
    (w.setCells g (i * 8) m.cells).ownsRow base 24 8 (.slice (some ⟨g, 0, none⟩) n cap) n (cellsS (L.set i m)) := by
  rw [← setL_spans L i m hi]; exact own_setL _ _ h
theorem own_range {w : World} {base g n cap : Nat} {L : List Spn} (h : w.ownsRow base 24 8 (.slice (some ⟨g, 0, none⟩) n cap) n (cellsS L)) {i : Nat} {m : Spn} (hm : L[i]? = some m) : w.rangeAt g (i * 8) m.cells := by
  intro j v hj
  have hl : j < 8 := by have := (List.getElem?_eq_some_iff.1 hj).1; simpa [Spn.cells] using this
  have := h.cells (g := g) rfl _ _ ((cellsS_at L i m hm j hl).trans hj)
  rwa [add_mid, Nat.zero_add] at this
theorem own_there {w : World} {base g n cap : Nat} {L : List Spn} (h : w.ownsRow base 24 8 (.slice (some ⟨g, 0, none⟩) n cap) n (cellsS L)) {i : Nat} (hi : i < L.length) : w.there g (i * 8) 8 := by
  intro j hj
  have hm : L[i]? = some L[i] := List.getElem?_eq_getElem hi
  have hc := own_range h hm
  have hl : j < (L[i]).cells.length := by simpa [Spn.cells] using hj
  refine ⟨?_, h.frozenAt _⟩
  rw [hc j _ (List.getElem?_eq_getElem hl)]; rfl
theorem isRow24 : ∃ d, Try.prog.underlying 24 = some d ∧ d.isRow = true := ⟨_, Try.underlying24, rfl⟩
theorem info24 : (Try.prog.info? 24).map (·.size) = some 8 := by kernel_rfl
theorem cells_all (m : Spn) : m.cells.toArray.all (·.oneCell') = true := all_oneCell_toArray (fun v hv => by
  simp [Spn.cells] at hv
  rcases hv with rfl | rfl | rfl | rfl | rfl | rfl | rfl | rfl <;> rfl)
theorem cmp_call (x y : Spn) (bk : Nat) (w : World) (h : w.cell? ⟨bk, 0, none⟩ = some (.func (.func 33) #[] #[])) :
    Calls Try.prog 42 #[.agg x.cells.toArray, .agg y.cells.toArray, .pointer (some ⟨bk, 0, none⟩)] w fun e w' => e = .returned (.int .i64 (cmpI x.id y.id)) ∧ Kept (fun _ => False) w w' := cmp_any x y bk w h
end Go.Proofs.Ytjidldbolbjdpaa
