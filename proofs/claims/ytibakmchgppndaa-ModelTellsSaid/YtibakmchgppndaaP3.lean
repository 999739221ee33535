/- Nones, Spn, Key, Late, Shelf, Nam, ChkA, TakeP, TakeA, SortA, TCmp, TSw, TInsert, TRange -/
import Derived.Test.YtibakmchgppndaaP2
import Derived.ProofKit
import Derived.Deep.Slices
import Derived.Deep.Strs
import Derived.Shelf.GgClosure.StringsIndexFuncTop
import Derived.Shelf.SlSortCmp.NoneTotal
import Derived.Deep.MidRow
/- A model that is none: what its methods answer. -/
namespace Go.Proofs.Ytibakmchgppndaa
open Go.RowKit Go.MapKept Go.Instr Go.ChangeMaps

/-- A model that is none, or has no map. -/
def NoneAt (w : World) (v : Value) : Prop := v = .pointer none ∨ ∃ p, v = .pointer (some ⟨p, 0, none⟩) ∧ w.cell? ⟨p, 0, none⟩ = some (.map none)
theorem NoneAt.kept {w w' : World} {v : Value} (h : NoneAt w v) (hK : Kept (fun _ => False) w w') : NoneAt w' v := by
 rcases h with h | ⟨p, h, hc⟩
 ·exact .inl h
 ·exact .inr ⟨p, h, hK.cell hc (fun f => f)⟩
theorem none_any {w : World} {v : Value} (h : NoneAt w v) : Calls Try.prog 28 #[v] w fun e w' => e = .returned (.bool true) ∧ w = w' := by
 rcases h with rfl | ⟨p, rfl, hc⟩
 ·exact none_nil w
 ·exact none_empty p w hc
set_option maxRecDepth 100000 in
theorem take_none {w : World} {v : Value} (l : Value) (now : Int) (h : NoneAt w v) : Calls Try.prog 9 #[v, l, .int .i64 now] w fun e w' => e = .returned (.int .i64 0) ∧ w = w' := by
 have N := Lib.hid (none_any h)
 go_enter Try.func9, Try.ntmps9
 go_wp2_with (go_at_call 28; refine N.out.mono ?_; rintro e w4 ⟨rfl, rfl⟩)
 go_ret
 exact ⟨rfl, rfl⟩
set_option maxRecDepth 100000 in
theorem spans_none {w : World} {v : Value} (now : Int) (h : NoneAt w v) : Calls Try.prog 10 #[v, .int .i64 now] w fun e w' => e = .returned (.slice none 0 0) ∧ w = w' := by
 have N := Lib.hid (none_any h)
 go_enter Try.func10, Try.ntmps10
 go_wp2_with (go_at_call 28; refine N.out.mono ?_; rintro e w4 ⟨rfl, rfl⟩)
 go_ret
 exact ⟨rfl, rfl⟩
set_option maxRecDepth 100000 in
theorem get_none {w : World} {v : Value} (t now : Int) (h : NoneAt w v) : Calls Try.prog 16 #[v, .int .i64 t, .int .i64 now] w fun e w' => e = .returned (.tuple #[.agg #[.int .i64 0, .slice none 0 0], .int .i64 1]) ∧ Kept (fun _ => False) w w' := by
 have N := Lib.hid (none_any (h.kept (((Kept.refl (fun _ => False) w).alloc (.cells #[.int .i64 t] 3)).alloc (.cells #[.int .i64 0, .slice none 0 0] 46))))
 go_enter Try.func16, Try.ntmps16
 go_wp2_with fail
 refine N.out.mono ?_
 rintro e w4 ⟨rfl, rfl⟩
 go_wp2
 refine bodyPost_ret (v := _) (by simp [results, Try.results16, go_sem]; try rfl) rfl ?_
 exact ⟨rfl, ((Kept.refl (fun _ => False) w).alloc _).alloc _⟩
set_option maxRecDepth 100000 in
theorem scan_none {w : World} {v : Value} (a l now : Int) (h : NoneAt w v) : Calls Try.prog 18 #[v, .int .i64 a, .int .i64 l, .int .i64 now] w fun e w' => e = .returned (.tuple #[.agg #[.slice none 0 0, .int .i64 0, .bool false], .int .i64 1]) ∧ Kept (fun _ => False) w w' := by
 have N := Lib.hid (none_any (h.kept ((Kept.refl (fun _ => False) w).alloc (.cells #[.slice none 0 0, .int .i64 0, .bool false] 52))))
 go_enter Try.func18, Try.ntmps18
 go_wp2_with fail
 refine N.out.mono ?_
 rintro e w4 ⟨rfl, rfl⟩
 go_wp2
 refine bodyPost_ret (v := _) (by simp [results, Try.results18, go_sem]; try rfl) rfl ?_
 exact ⟨rfl, (Kept.refl (fun _ => False) w).alloc _⟩
set_option maxRecDepth 100000 in
theorem find_none {w : World} {v : Value} (now : Int) (h : NoneAt w v) : Calls Try.prog 20 #[v, .agg #[.string ⟨#[]⟩, .string ⟨#[]⟩, .int .i64 0, .int .i64 0, .int .i64 0], .int .i64 now] w fun e w' => e = .returned (.tuple #[.slice none 0 0, .int .i64 1]) ∧ Kept (fun _ => False) w w' := by
 have N := Lib.hid (none_any (h.kept ((Kept.refl (fun _ => False) w).alloc (.cells #[.string ⟨#[]⟩, .string ⟨#[]⟩, .int .i64 0, .int .i64 0, .int .i64 0] 40))))
 go_enter Try.func20, Try.ntmps20
 go_wp2_with fail
 refine N.out.mono ?_
 rintro e w4 ⟨rfl, rfl⟩
 go_wp2
 refine bodyPost_ret (v := _) (by simp [results, Try.results20, go_sem]; try rfl) rfl ?_
 exact ⟨rfl, (Kept.refl (fun _ => False) w).alloc _⟩
set_option maxRecDepth 100000 in
theorem tree_none {w : World} {v : Value} (t now : Int) (h : NoneAt w v) : Calls Try.prog 22 #[v, .int .i64 t, .int .i64 now] w fun e w' => e = .returned (.tuple #[.agg #[.slice none 0 0, .slice none 0 0], .int .i64 1]) ∧ Kept (fun _ => False) w w' := by
 have N := Lib.hid (get_none t now (h.kept ((Kept.refl (fun _ => False) w).alloc (.cells #[.slice none 0 0, .slice none 0 0] 60))))
 go_enter Try.func22, Try.ntmps22
 go_wp2_with fail
 refine N.out.mono ?_
 rintro e w4 ⟨rfl, k4⟩
 obtain ⟨n, hn⟩ : ∃ n, w.heap.size = n := ⟨_, rfl⟩
 have c0 : w4.cell? ⟨n, 0, none⟩ = some (.slice none 0 0) := k4.cell (by rw [← hn]; simp) (fun f => f)
 have c1 : w4.cell? ⟨n, 1, none⟩ = some (.slice none 0 0) := k4.cell (by rw [← hn]; simp) (fun f => f)
 have fz : ∀ j, w4.frozen? ⟨n, j, none⟩ = false := fun j => k4.frozen (by rw [← hn]; simp) (by rw [← hn]; simp) (fun f => f)
 have K4 := Lib.hid (keptFF ((Kept.refl (fun _ => False) w).alloc _) k4)
 have L4 := k4.size
 have hlt := World.block_lt_of_cell? _ _ c0
 simp only at hlt
 have kz : Kept (fun _ => False) w4 (w4.alloc (Obj.cells #[.int .i64 0, .slice none 0 0] 46)) := (Kept.refl (fun _ => False) w4).alloc _
 have d0 := kz.cell c0 (fun f => f)
 have d1 := kz.cell c1 (fun f => f)
 have dz : ∀ j, (w4.alloc (Obj.cells #[.int .i64 0, .slice none 0 0] 46)).frozen? ⟨n, j, none⟩ = false := fun j => kz.frozen (fz j) hlt (fun f => f)
 have BN := Lib.hid hn
 rw [hn]
 clear k4 kz hn
 go_wp2
 obtain ⟨W, hW⟩ : ∃ W, ((w4.setCell ⟨n, 0, none⟩ (.slice none 0 0)).setCell ⟨n, 1, none⟩ (.slice none 0 0)).alloc (Obj.cells #[.int .i64 0, .slice none 0 0] 46) = W := ⟨_, rfl⟩
 have r0 : W.cell? ⟨n, 0, none⟩ = some (.slice none 0 0) := by
  rw [← hW]
  exact ((Kept.refl (fun _ => False) _).alloc _).cell ((World.cell?_setCell_other _ ⟨n, 1, none⟩ ⟨n, 0, none⟩ _ (by simp)).trans (World.cell?_setCell_same w4 _ _ c0)) (fun f => f)
 have r1 : W.cell? ⟨n, 1, none⟩ = some (.slice none 0 0) := by
  rw [← hW]
  exact ((Kept.refl (fun _ => False) _).alloc _).cell (World.cell?_setCell_same _ _ _ ((World.cell?_setCell_other w4 ⟨n, 0, none⟩ ⟨n, 1, none⟩ _ (by simp)).trans c1)) (fun f => f)
 have hb : n < w.heap.size → False := fun h => by have := BN.out; omega
 have KF : Kept (fun _ => False) w W := by rw [← hW]; exact (Kept.setAt hb (Kept.setAt hb K4.out)).alloc _
 rw [hW]
 clear hW
 refine bodyPost_ret (v := _) (by simp [results, Try.results22, go_sem, r0, r1]; try rfl) rfl ?_
 exact ⟨rfl, KF⟩
end Go.Proofs.Ytibakmchgppndaa
/- Spans in memory, and how lists of them read as arguments. -/
namespace Go.Proofs.Ytibakmchgppndaa
open Go.ChangeShapes Go.WideShapes Go.ChangeAt Go.RowKit Go.Deep

structure Spn where
 tr : Int
 id : Int
 pa : Int
 se : ByteArray
 ho : ByteArray
 st : Int
 du : Int
 no : ByteArray
 deriving Inhabited
def Spn.cells (m : Spn) : List Value := [.int .i64 m.tr, .int .i64 m.id, .int .i64 m.pa, .string m.se, .string m.ho, .int .i64 m.st, .int .i64 m.du, .string m.no]
def cellsS : List Spn → List Value
 | [] => []
 | m :: t => m.cells ++ cellsS t
theorem cellsS_length : ∀ L, (cellsS L).length = L.length * 8
 | [] => rfl
 | m :: t => by simp [cellsS, cellsS_length t, Spn.cells]; omega
theorem cellsS_append : ∀ a b, cellsS (a ++ b) = cellsS a ++ cellsS b
 | [], b => rfl
 | m :: t, b => by simp [cellsS, cellsS_append t b]
theorem cellsS_at : ∀ (L : List Spn) (i : Nat) (m : Spn), L[i]? = some m → ∀ k, k < 8 → (cellsS L)[i * 8 + k]? = m.cells[k]?
 | [], i, m, h, _, _ => by simp at h
 | x :: t, 0, m, h, k, hk => by
  simp at h; subst h
  rw [cellsS, List.getElem?_append_left (by simp [Spn.cells]; omega)]; simp
 | x :: t, i + 1, m, h, k, hk => by
  have := cellsS_at t i m (by simpa using h) k hk
  rw [cellsS, List.getElem?_append_right (by simp [Spn.cells]; omega)]
  rw [← this]; congr 1; simp [Spn.cells]; omega
theorem cellsS_one : ∀ (L : List Spn), ∀ u ∈ cellsS L, u.oneCell' = true
 | [], u, h => by simp [cellsS] at h
 | m :: t, u, h => by
  rcases List.mem_append.1 h with h | h
  ·simp [Spn.cells] at h
   rcases h with rfl | rfl | rfl | rfl | rfl | rfl | rfl | rfl <;> rfl
  ·exact cellsS_one t u h
/-- A list of spans, as it lies. -/
def ReadsS (w : World) (v : Value) (L : List Spn) : Prop :=
 ∃ ao cap, v = .slice ao L.length cap ∧ (L = [] ∨ ∃ g o, ao = some ⟨g, o, none⟩ ∧ ∀ j u, (cellsS L)[j]? = some u → w.cell? ⟨g, o + j, none⟩ = some u)
theorem ReadsS.kept {S : Nat → Prop} {w w' : World} {v : Value} {L : List Spn} (h : ReadsS w v L) (hK : Kept S w w') (hS : ∀ k, v.ownBlock = some k → ¬ S k) (ho : ∀ g o n c, v = .slice (some ⟨g, o, none⟩) n c → ¬ S g) : ReadsS w' v L := by
 obtain ⟨ao, cap, rfl, h⟩ := h
 refine ⟨ao, cap, rfl, ?_⟩
 rcases h with h | ⟨g, o, rfl, hc⟩
 ·exact .inl h
 ·exact .inr ⟨g, o, rfl, fun j u hu => hK.cell (hc j u hu) (ho g o _ _ rfl)⟩
theorem ReadsS.keptF {w w' : World} {v : Value} {L : List Spn} (h : ReadsS w v L) (hK : Kept (fun _ => False) w w') : ReadsS w' v L := h.kept hK (fun _ _ f => f) (fun _ _ _ _ _ f => f)
theorem ReadsS.at {w : World} {L : List Spn} {g o : Nat} (hc : ∀ j u, (cellsS L)[j]? = some u → w.cell? ⟨g, o + j, none⟩ = some u) {i : Nat} {m : Spn} (hm : L[i]? = some m) :
  w.cell? ⟨g, o + i * 8, none⟩ = some (.int .i64 m.tr) ∧ w.cell? ⟨g, o + i * 8 + 1, none⟩ = some (.int .i64 m.id) ∧ w.cell? ⟨g, o + i * 8 + 2, none⟩ = some (.int .i64 m.pa) ∧ w.cell? ⟨g, o + i * 8 + 3, none⟩ = some (.string m.se) ∧ w.cell? ⟨g, o + i * 8 + 4, none⟩ = some (.string m.ho) ∧ w.cell? ⟨g, o + i * 8 + 5, none⟩ = some (.int .i64 m.st) ∧ w.cell? ⟨g, o + i * 8 + 6, none⟩ = some (.int .i64 m.du) ∧ w.cell? ⟨g, o + i * 8 + 7, none⟩ = some (.string m.no) := by
 have h := fun k hk u (hu : m.cells[k]? = some u) => hc _ u ((cellsS_at L i m hm k hk).trans hu)
 refine ⟨by have := h 0 (by omega) _ rfl; simpa [Nat.add_assoc] using this, by have := h 1 (by omega) _ rfl; simpa [Nat.add_assoc] using this, by have := h 2 (by omega) _ rfl; simpa [Nat.add_assoc] using this, by have := h 3 (by omega) _ rfl; simpa [Nat.add_assoc] using this, by have := h 4 (by omega) _ rfl; simpa [Nat.add_assoc] using this, by have := h 5 (by omega) _ rfl; simpa [Nat.add_assoc] using this, by have := h 6 (by omega) _ rfl; simpa [Nat.add_assoc] using this, by have := h 7 (by omega) _ rfl; simpa [Nat.add_assoc] using this⟩

theorem own : ownKnob Try.prog.godebug = none := by kernel_rfl
theorem laidOut : laidOutB Try.prog = true := by kernel_rfl
theorem cellsOf3 : Try.prog.cellsOf 3 = 1 := by kernel_rfl
theorem cellsOf9 : Try.prog.cellsOf 9 = 1 := by kernel_rfl
theorem cellsOf37 : Try.prog.cellsOf 37 = 8 := by kernel_rfl

section
variable {H : Type} {enc : TypeId × Value → H} {w : World} {base : Nat} {spare : Nat → Bool} {held : Bool} {fuel : Nat} {cs : List Value} {x : DataW H × List MemPlace}
set_option maxRecDepth 100000 in
theorem spn_cells (h : DataW.trod enc Try.prog w base spare held fuel 37 cs = some x) : ∃ m : Spn, cs = m.cells ∧ m.se.size ≤ maxLen ∧ m.ho.size ≤ maxLen ∧ m.no.size ≤ maxLen := by
 obtain ⟨xs, n, _, rfl, hl, hlen, hf⟩ := DataW.trod_struct Try.underlying37 h
 rw [cellsOf37] at hl
 match xs, hlen, cs, hl with
 | [y0, y1, y2, y3, y4, y5, y6, y7], _, [c0, c1, c2, c3, c4, c5, c6, c7], _ =>
  have h0 := hf 0 _ rfl
  have h1 := hf 1 _ rfl
  have h2 := hf 2 _ rfl
  have h3 := hf 3 _ rfl
  have h4 := hf 4 _ rfl
  have h5 := hf 5 _ rfl
  have h6 := hf 6 _ rfl
  have h7 := hf 7 _ rfl
  simp [cellsOf3] at h0
  simp [cellsOf3] at h1
  simp [cellsOf3] at h2
  simp [cellsOf9] at h3
  simp [cellsOf9] at h4
  simp [cellsOf3] at h5
  simp [cellsOf3] at h6
  simp [cellsOf9] at h7
  obtain ⟨a0, e0, _, _⟩ := DataW.trod_int Try.underlying3 h0
  obtain ⟨a1, e1, _, _⟩ := DataW.trod_int Try.underlying3 h1
  obtain ⟨a2, e2, _, _⟩ := DataW.trod_int Try.underlying3 h2
  obtain ⟨a3, e3, _, b3⟩ := DataW.trod_string Try.underlying9 h3
  obtain ⟨a4, e4, _, b4⟩ := DataW.trod_string Try.underlying9 h4
  obtain ⟨a5, e5, _, _⟩ := DataW.trod_int Try.underlying3 h5
  obtain ⟨a6, e6, _, _⟩ := DataW.trod_int Try.underlying3 h6
  obtain ⟨a7, e7, _, b7⟩ := DataW.trod_string Try.underlying9 h7
  simp only [List.cons.injEq, and_true] at e0 e1 e2 e3 e4 e5 e6 e7
  exact ⟨⟨a0, a1, a2, a3, a4, a5, a6, a7⟩, by rw [e0, e1, e2, e3, e4, e5, e6, e7]; rfl, b3, b4, b7⟩
theorem mapM_get {α β : Type} {f : α → Option β} : ∀ {l : List α} {r : List β}, l.mapM f = some r → r.length = l.length ∧ ∀ (i : Nat) (y : β), r[i]? = some y → ∃ z, l[i]? = some z ∧ f z = some y
 | [], r, h => by simp at h; subst h; exact ⟨rfl, fun i y hy => by simp at hy⟩
 | z :: l, r, h => by
  rw [List.mapM_cons] at h
  cases h1 : f z with
  | none => simp [h1] at h
  | some y0 =>
   cases h2 : l.mapM f with
   | none => simp [h1, h2] at h
   | some r0 =>
    simp [h1, h2] at h
    subst h
    obtain ⟨e, ih⟩ := mapM_get h2
    refine ⟨by simp [e], fun i y hy => ?_⟩
    cases i with
    | zero => simp at hy; subst hy; exact ⟨z, rfl, h1⟩
    | succ i => simpa using ih i y (by simpa using hy)
theorem cells_get {a : Addr} {n : Nat} {cs' : List Value} (h : w.cells? base a n = some cs') : cs'.length = n ∧ ∀ r u, cs'[r]? = some u → w.cell? (a.add r) = some u := by
 unfold World.cells? at h
 split at h
 ·obtain ⟨e, hg⟩ := mapM_get h
  refine ⟨by simpa using e, fun r u hu => ?_⟩
  obtain ⟨z, hz, hf⟩ := hg r u hu
  have hr : r < n := by have := (List.getElem?_eq_some_iff.1 hu).1; simp at e; omega
  rw [List.getElem?_range hr] at hz
  cases hz; exact hf
 ·cases h
theorem spans_open (h : DataW.trod enc Try.prog w 0 spare held fuel 27 cs = some x) :
  ∃ v, cs = [v] ∧ ∃ R : List Spn, ReadsS w v R ∧ R.length ≤ maxLen ∧ ∀ y ∈ R, y.se.size ≤ maxLen ∧ y.ho.size ≤ maxLen ∧ y.no.size ≤ maxLen := by
 rcases open_slice Try.underlying27 h with ⟨hcs, _⟩ | ⟨b, len, cap, m, n, D, Pl, hcs, _, hl, hm, hmm, _, hel⟩
 ·exact ⟨_, hcs, [], ⟨none, 0, rfl, .inl rfl⟩, by simp, fun y hy => by cases hy⟩
 ·have hlm : len ≤ m := by rw [hmm]; split <;> omega
  rw [cellsOf37] at hel
  obtain ⟨f, hf⟩ := choose_lt (n := len) (p := fun i (y : Spn) => (∃ cs', w.cells? 0 (b.add (i * 8)) 8 = some cs' ∧ cs' = y.cells) ∧ y.se.size ≤ maxLen ∧ y.ho.size ≤ maxLen ∧ y.no.size ≤ maxLen) (fun i hi => by
   obtain ⟨cs', h1, h2⟩ := hel i (by omega)
   obtain ⟨y, e, hb⟩ := spn_cells h2
   exact ⟨y, ⟨cs', h1, e⟩, hb⟩)
  refine ⟨_, hcs, (List.range len).map f, ⟨some b, cap, by simp, ?_⟩, by simp; omega, fun y hy => ?_⟩
  ·by_cases h0 : len = 0
   ·left; subst h0; rfl
   ·right
    obtain ⟨⟨cs', h1, h2⟩, _⟩ := hf 0 (by omega)
    obtain ⟨_, hg⟩ := cells_get h1
    have hspot : b.spot = none := by
     have := hg 0 (.int .i64 (f 0).tr) (by rw [h2]; rfl)
     have := World.cell?_spot this
     simpa [Addr.add] using this
    obtain ⟨bb, bo, bs⟩ := b
    simp at hspot; subst hspot
    refine ⟨bb, bo, rfl, fun j u hu => ?_⟩
    have hl2 := (List.getElem?_eq_some_iff.1 hu).1
    rw [cellsS_length] at hl2
    simp at hl2
    have hq : j / 8 < len := by omega
    have hj : j = j / 8 * 8 + j % 8 := by omega
    have hgm : ((List.range len).map f)[j / 8]? = some (f (j / 8)) := by simp [hq]
    rw [hj, cellsS_at _ _ _ hgm _ (Nat.mod_lt _ (by omega))] at hu
    obtain ⟨⟨cs', h1, h2⟩, _⟩ := hf (j / 8) hq
    obtain ⟨_, hg⟩ := cells_get h1
    have := hg (j % 8) u (by rw [h2]; exact hu)
    rw [add_mid, add_mid] at this
    rw [show bo + j = bo + j / 8 * 8 + j % 8 by omega]
    exact this
  ·obtain ⟨i, hi, rfl⟩ := List.mem_map.1 hy
   exact (hf i (by simpa using hi)).2
end
end Go.Proofs.Ytibakmchgppndaa
/- What the model's maps do, of whatever many entries whose keys are two numbers. Plain laws on one block. -/
namespace Go.Proofs.Ytibakmchgppndaa
open Go.RowKit Go.MapKept Go.Instr Go.ChangeMaps

def keyV (k : Int × Int) : Value := .agg #[.int .i64 k.1, .int .i64 k.2]
def aggS (m : Spn) : Value := .agg #[.int .i64 m.tr, .int .i64 m.id, .int .i64 m.pa, .string m.se, .string m.ho, .int .i64 m.st, .int .i64 m.du, .string m.no]
abbrev KV := (Int × Int) × Value
/-- The entries of a map into which these were laid one by one, the first one numbered n. -/
def entsL : Nat → List KV → List MapEntry
 | _, [] => []
 | n, p :: t => ⟨keyV p.1, p.2, n⟩ :: entsL (n + 1) t
theorem entsL_length : ∀ (n : Nat) (L : List KV), (entsL n L).length = L.length
 | _, [] => rfl
 | n, p :: t => by simp [entsL, entsL_length (n + 1) t]
theorem entsL_at : ∀ (n : Nat) (L : List KV) (i : Nat), (entsL n L)[i]? = (L[i]?).map (fun p => ⟨keyV p.1, p.2, n + i⟩)
 | _, [], i => by simp [entsL]
 | n, p :: t, 0 => by simp [entsL]
 | n, p :: t, i + 1 => by simp [entsL, entsL_at (n + 1) t i]; congr 1; funext q; simp; omega
theorem entsL_append : ∀ (n : Nat) (L T : List KV), entsL n (L ++ T) = entsL n L ++ entsL (n + L.length) T
 | _, [], T => by simp [entsL]
 | n, p :: t, T => by simp [entsL, entsL_append (n + 1) t T]; congr 1; omega
/-- The place of a key, as it is looked for. -/
def idxL (k : Int × Int) : List KV → Option Nat
 | [] => none
 | p :: t => if k = p.1 then some 0 else (idxL k t).map (· + 1)
theorem idxL_some : ∀ {k : Int × Int} {L : List KV} {i : Nat}, idxL k L = some i → ∃ p, L[i]? = some p ∧ p.1 = k
 | k, [], i, h => by simp [idxL] at h
 | k, p :: t, i, h => by
  unfold idxL at h
  split at h
  ·rename_i e; cases h; exact ⟨p, rfl, e.symm⟩
  ·cases hi : idxL k t with
   | none => simp [hi] at h
   | some j => simp [hi] at h; subst h; simpa using idxL_some hi
theorem idxL_none : ∀ {k : Int × Int} {L : List KV}, idxL k L = none → ∀ p ∈ L, p.1 ≠ k
 | k, [], h, p, hp => by simp at hp
 | k, q :: t, h, p, hp => by
  unfold idxL at h
  split at h
  ·cases h
  ·rename_i e
   have h2 : idxL k t = none := by cases hi : idxL k t with
    | none => rfl
    | some j => simp [hi] at h
   rcases List.mem_cons.1 hp with rfl | hp
   ·exact fun e2 => e e2.symm
   ·exact idxL_none h2 p hp
theorem eq_in (a b c d : Int) (w : World) : (Op.equalIn 10000 74 (.agg #[.int .i64 a, .int .i64 b]) (.agg #[.int .i64 c, .int .i64 d])).run Try.prog w = .ok (decide (a = c) && decide (b = d)) w := by
 have q : Try.prog.stoodInHeld 74 = false := by kernel_rfl
 by_cases h1 : a = c
 ·by_cases h2 : b = d
  ·simp [go_sem, q, h1, h2]
  ·simp [go_sem, q, h1, h2]
 ·simp [go_sem, q, h1]
theorem eqK (k l : Int × Int) (w : World) : (Op.equal 74 (keyV k) (keyV l)).run Try.prog w = .ok (decide (k = l)) w := by
 obtain ⟨a, b⟩ := k
 obtain ⟨c, d⟩ := l
 have h := eq_in a b c d w
 have e : decide ((a, b) = (c, d)) = (decide (a = c) && decide (b = d)) := by rw [← Bool.decide_and]; simp only [Prod.mk.injEq]
 rw [e]
 exact h
theorem ask_any (k : Int × Int) (w : World) : ∀ (L : List KV) (n i : Nat), (findAsking 74 (keyV k) (entsL n L) i).run Try.prog w = .ok ((idxL k L).map (fun j => (i + j, ((L[j]?).map (·.2)).getD undef))) w
 | [], n, i => by simp [entsL, findAsking, idxL]
 | p :: t, n, i => by
  have ih := ask_any k w t (n + 1) (i + 1)
  unfold entsL findAsking idxL
  simp only [Sem.run_bind, eqK, Result.andThen_ok]
  by_cases e : k = p.1
  ·simp [e]
  ·simp only [e, decide_false, Bool.false_eq_true, if_false, ih]
   cases hi : idxL k t with
   | none => simp
   | some j => simp; omega
theorem findk_any (k : Int × Int) (w : World) (L : List KV) (n : Nat) : (findKey 74 (keyV k) (entsL n L)).run Try.prog w = .ok ((idxL k L).map (fun j => (j, ((L[j]?).map (·.2)).getD undef))) w := by
 have hu : Try.prog.underlying 74 = some _ := Try.underlying74
 cases L with
 | nil =>
  unfold findKey
  simp only [Sem.run_bind, run_underlying hu, Result.andThen_ok]
  rfl
 | cons p t =>
  have h := ask_any k w (p :: t) n 0
  simp only [Nat.zero_add] at h
  rw [← h]
  unfold findKey
  simp only [Sem.run_bind, run_underlying hu, Result.andThen_ok]
  rfl
theorem ck74 (k : Int × Int) (e : Bool) (w : World) : (checkKey e 10000 74 (keyV k)).run Try.prog w = .ok () w := by cases e <;> kernel_rfl
theorem stays_any (k : Int × Int) (w : World) : (keyThatStays (keyV k) (keyV k)).run Try.prog w = .ok (keyV k) w := by
 have h : sameBits 10000 (keyV k) (keyV k) = true := by
  obtain ⟨a, b⟩ := k
  simp [keyV, sameBits]
 unfold keyThatStays
 simp [h]
/-- The map of these lies in block b. -/
def MapIs (w : World) (b : Nat) (L : List KV) : Prop := w.heap[b]? = some (.map (entsL 0 L).toArray L.length)
theorem MapIs.lt {w : World} {b : Nat} {L : List KV} (h : MapIs w b L) : b < w.heap.size := (Array.getElem?_eq_some_iff.1 h).1
theorem MapIs.kept {S : Nat → Prop} {w w' : World} {b : Nat} {L : List KV} (h : MapIs w b L) (hK : Kept S w w') (hS : ¬ S b) : MapIs w' b L := (hK.block b h.lt hS).trans h
theorem MapIs.not_cell {w : World} {b j : Nat} {L : List KV} (h : MapIs w b L) : w.cell? ⟨b, j, none⟩ = none := cell_map h
/-- A key's entry: what is there, or z behind the last one. -/
def oldL (k : Int × Int) (z : Value) (L : List KV) : Value := ((idxL k L).map (fun j => ((L[j]?).map (·.2)).getD undef)).getD z
def entL (k : Int × Int) (z : Value) (L : List KV) : List KV := if (idxL k L).isSome then L else L ++ [(k, z)]
def stampL (k : Int × Int) (L : List KV) : Nat := (idxL k L).getD L.length
def putL (k : Int × Int) (v : Value) (L : List KV) : List KV := if (idxL k L).isSome then L.set (stampL k L) (k, v) else L ++ [(k, v)]

theorem look68 {w : World} {b : Nat} {L : List KV} (h : MapIs w b L) (k : Int × Int) : (Instr.lookup 68 (.map (some b)) (keyV k) true).run Try.prog w = .ok (.tuple #[oldL k spanZ L, .bool (idxL k L).isSome]) w := by
 have f := findk_any k w L 0
 unfold Instr.lookup
 simp only [Sem.run_bind, run_underlying u68, Go.MapKept.run_getObj_map h, Result.andThen_ok, Sem.run_pure, ck74, f]
 unfold oldL
 cases hi : idxL k L with
 | none => simp [spanZ]
 | some j => simp
theorem look72 {w : World} {b : Nat} {L : List KV} (h : MapIs w b L) (k : Int × Int) : (Instr.lookup 72 (.map (some b)) (keyV k) false).run Try.prog w = .ok (oldL k (.int .i64 0) L) w := by
 have f := findk_any k w L 0
 unfold Instr.lookup
 simp only [Sem.run_bind, run_underlying u72, Go.MapKept.run_getObj_map h, Result.andThen_ok, Sem.run_pure, ck74, f]
 unfold oldL
 cases hi : idxL k L with
 | none => simp
 | some j => simp
theorem modify_same {L : List KV} {i : Nat} {p : KV} (h : L[i]? = some p) : (entsL 0 L).toArray.modify i (fun e => { e with key := keyV p.1 }) = (entsL 0 L).toArray := by
 apply Array.ext_getElem?
 intro j
 rw [Array.getElem?_modify]
 split
 ·rename_i e; subst e; simp [entsL_at, h]
 ·rfl
theorem modify_val {L : List KV} {i : Nat} {p : KV} (v : Value) (h : L[i]? = some p) : (entsL 0 L).toArray.modify i (fun e => { e with val := v }) = (entsL 0 (L.set i (p.1, v))).toArray := by
 apply Array.ext_getElem?
 intro j
 rw [Array.getElem?_modify]
 have hl := (List.getElem?_eq_some_iff.1 h).1
 split
 ·rename_i e; subst e
  have h2 : L[i] = p := (List.getElem?_eq_some_iff.1 h).2
  simp [entsL_at, hl, h2]
 ·rename_i e; simp [entsL_at, e]
theorem modify_both {L : List KV} {i : Nat} {p : KV} (v : Value) (h : L[i]? = some p) : (entsL 0 L).toArray.modify i (fun e => { e with key := keyV p.1, val := v }) = (entsL 0 (L.set i (p.1, v))).toArray := by
 apply Array.ext_getElem?
 intro j
 rw [Array.getElem?_modify]
 have hl := (List.getElem?_eq_some_iff.1 h).1
 split
 ·rename_i e; subst e
  have h2 : L[i] = p := (List.getElem?_eq_some_iff.1 h).2
  simp [entsL_at, hl, h2]
 ·rename_i e; simp [entsL_at, e]
theorem push_ents (L : List KV) (k : Int × Int) (v : Value) : (entsL 0 L).toArray.push ⟨keyV k, v, L.length⟩ = (entsL 0 (L ++ [(k, v)])).toArray := by
 rw [entsL_append]; simp [entsL]
theorem entry68 {w : World} {b : Nat} {L : List KV} (h : MapIs w b L) (k : Int × Int) : (Instr.mapEntry 68 (.map (some b)) (keyV k)).run Try.prog w = .ok (.tuple #[oldL k spanZ L, .int .i64 (stampL k L)]) (setBlock w b (.map (entsL 0 (entL k spanZ L)).toArray (entL k spanZ L).length)) := by
 have f := findk_any k w L 0
 unfold Instr.mapEntry
 simp only [Sem.run_bind, run_underlying u68, Go.MapKept.run_getObj_map h, Result.andThen_ok, ck74, f]
 unfold oldL entL stampL
 cases hi : idxL k L with
 | none =>
  simp only [Option.map_none, Sem.run_bind, z37, Result.andThen_ok, Go.MapKept.run_setObj_map _ h, push_ents]
  simp [goInt, setBlock]
 | some i =>
  obtain ⟨p, hp, rfl⟩ := idxL_some hi
  have e : (entsL 0 L).toArray[i]? = some ⟨keyV p.1, p.2, i⟩ := by simp [entsL_at, hp]
  simp only [Option.map_some, e, Option.getD_some, Sem.run_bind, stays_any, Result.andThen_ok, Go.MapKept.run_setObj_map _ h, modify_same hp]
  simp [goInt, setBlock]
theorem idx_born (L : List KV) (i : Nat) (h : i < L.length) : (entsL 0 L).toArray.findIdx? (fun e => (e.born : Int) == (i : Int)) = some i := by
 rw [List.findIdx?_toArray, List.findIdx?_eq_some_iff_getElem]
 refine ⟨by rw [entsL_length]; exact h, ?_, fun j hj => ?_⟩
 ·have := entsL_at 0 L i
  rw [List.getElem?_eq_getElem (by rw [entsL_length]; exact h), List.getElem?_eq_getElem h] at this
  have := Option.some.inj this
  simp [this]
 ·have := entsL_at 0 L j
  rw [List.getElem?_eq_getElem (by rw [entsL_length]; omega), List.getElem?_eq_getElem (by omega)] at this
  have := Option.some.inj this
  simp [this]; omega
theorem ent_at (k : Int × Int) (z : Value) (L : List KV) : ∃ p, (entL k z L)[stampL k L]? = some p ∧ p.1 = k := by
 unfold entL stampL
 cases hi : idxL k L with
 | none => exact ⟨(k, z), by simp, rfl⟩
 | some i => obtain ⟨p, hp, e⟩ := idxL_some hi; exact ⟨p, by simpa using hp, e⟩
theorem put_ent (k : Int × Int) (z v : Value) (L : List KV) : (entL k z L).set (stampL k L) (k, v) = putL k v L := by
 unfold entL putL stampL
 cases hi : idxL k L with
 | none => simp
 | some i => simp
theorem putL_length (k : Int × Int) (z v : Value) (L : List KV) : (putL k v L).length = (entL k z L).length := by rw [← put_ent k z v L]; simp
theorem store68 {w : World} {b : Nat} {L : List KV} {k : Int × Int} {z : Value} (h : MapIs w b (entL k z L)) (v : Value) : (Instr.entryStore 68 (.map (some b)) (.int .i64 (stampL k L)) v).run Try.prog w = .ok () (setBlock w b (.map (entsL 0 (putL k v L)).toArray (putL k v L).length)) := by
 obtain ⟨p, hp, rfl⟩ := ent_at k z L
 have hl := (List.getElem?_eq_some_iff.1 hp).1
 unfold Instr.entryStore
 have ha : (asInt (.int .i64 (stampL p.1 L))).run Try.prog w = .ok (stampL p.1 L : Int) w := rfl
 simp only [Sem.run_bind, Go.MapKept.run_getObj_map h, Result.andThen_ok, ha, idx_born _ _ hl]
 rw [modify_val v hp, Go.MapKept.run_setObj_map _ h, put_ent, putL_length p.1 z v L]
 rfl
theorem put72 {w : World} {b : Nat} {L : List KV} (h : MapIs w b L) (k : Int × Int) (v : Value) : (Instr.mapUpdate 72 (.map (some b)) (keyV k) v).run Try.prog w = .ok () (setBlock w b (.map (entsL 0 (putL k v L)).toArray (putL k v L).length)) := by
 have f := findk_any k w L 0
 unfold Instr.mapUpdate
 simp only [Sem.run_bind, run_underlying u72, Go.MapKept.run_getObj_map h, Result.andThen_ok, ck74, f]
 unfold putL stampL
 cases hi : idxL k L with
 | none =>
  simp only [Option.map_none, Go.MapKept.run_setObj_map _ h, push_ents]
  simp [setBlock]
 | some i =>
  obtain ⟨p, hp, rfl⟩ := idxL_some hi
  have e : (entsL 0 L).toArray[i]? = some ⟨keyV p.1, p.2, i⟩ := by simp [entsL_at, hp]
  simp only [Option.map_some, e, Option.getD_some, Sem.run_bind, stays_any, Result.andThen_ok, modify_both v hp, Go.MapKept.run_setObj_map _ h]
  simp [setBlock]
theorem MapIs.set {w : World} {b : Nat} {L : List KV} (hb : b < w.heap.size) : MapIs (setBlock w b (.map (entsL 0 L).toArray L.length)) b L := set_same _ hb
end Go.Proofs.Ytibakmchgppndaa
/- rows.Expired of any span that may be, at any tick. -/
namespace Go.Proofs.Ytibakmchgppndaa
open Go.RowKit

def lateB (st now : Int) : Bool := decide (60 ≤ now - st)
theorem late_all (st now : Int) (h0 : 0 ≤ st) (h1 : st ≤ 1073741824) (h2 : 0 ≤ now) (h3 : now ≤ 4294967296) (w : World) : Calls Try.prog 34 #[.int .i64 st, .int .i64 now] w fun e w' => e = .returned (.bool (lateB st now)) ∧ w = w' := by
 by_cases h : st ≤ now
 ·go_enter Try.func34, Try.ntmps34
  go_wp2
  go_ret
  exact ⟨by unfold lateB; rfl, rfl⟩
 ·go_enter Try.func34, Try.ntmps34
  go_wp2
  go_ret
  have e : lateB st now = false := by unfold lateB; simp; omega
  exact ⟨by rw [e]; rfl, rfl⟩
set_option maxRecDepth 100000 in
theorem expired_all (m : Spn) (now : Int) (h0 : 0 ≤ m.st) (h1 : m.st ≤ 1073741824) (h2 : 0 ≤ now) (h3 : now ≤ 4294967296) (w : World) : Calls Try.prog 12 #[aggS m, .int .i64 now] w fun e w' => e = .returned (.bool (lateB m.st now)) ∧ Kept (fun _ => False) w w' := by
 have L := Lib.hid (late_all m.st now h0 h1 h2 h3)
 unfold aggS
 go_enter Try.func12, Try.ntmps12
 go_wp2_with (go_at_call 34; refine (L.out _).mono ?_; rintro e w4 ⟨rfl, rfl⟩)
 go_ret
 exact ⟨rfl, (Kept.refl _ w).alloc _⟩
end Go.Proofs.Ytibakmchgppndaa
/- Two of the library's proved contracts (strings.ContainsFunc, slices.SortFunc) laid at this program: tables of numbers, a fact a field. (Printed by the kit's lay-plain.) -/
namespace Go.Proofs
open Go.Shelf
def Try.l17_ren : Go.Shelf.Ren := ⟨fun | 17 => 54 | 15 => 71 | 20 => 83 | n => n, fun | 9 => 9 | 23 => 106 | 4 => 4 | 3 => 3 | 0 => 0 | 21 => 21 | n => n, fun | n => n⟩
theorem Try.l17 : Go.Proofs.LaysGw.n17 Try.prog Try.l17_ren := {
 mixed := by kernel_rfl
 f15 := Try.func71.trans (congrArg some (by kernel_rfl))
 f17 := Try.func54.trans (congrArg some (by kernel_rfl))
 f20 := Try.func83.trans (congrArg some (by kernel_rfl))
 t0 := Try.underlying0
 a0 := Try.isAgg0
 z0 := Try.sizeOf0
 v0 := Try.zeroValue0
 i0 := by kernel_rfl
 t3 := Try.underlying3
 a3 := Try.isAgg3
 z3 := Try.sizeOf3
 v3 := Try.zeroValue3
 i3 := by kernel_rfl
 t4 := Try.underlying4
 a4 := Try.isAgg4
 z4 := Try.sizeOf4
 v4 := Try.zeroValue4
 i4 := by kernel_rfl
 t9 := Try.underlying9
 a9 := Try.isAgg9
 z9 := Try.sizeOf9
 v9 := Try.zeroValue9
 i9 := by kernel_rfl
 t21 := Try.underlying21
 a21 := Try.isAgg21
 z21 := Try.sizeOf21
 v21 := Try.zeroValue21
 i21 := by kernel_rfl
 t23 := Try.underlying106
 a23 := Try.isAgg106
 z23 := Try.sizeOf106
 v23 := Try.zeroValue106
 i23 := by kernel_rfl }
def Try.sortSp_ren : Go.Shelf.Ren := ⟨fun | 6 => 30 | 15 => 48 | 14 => 47 | 28 => 68 | 29 => 69 | 20 => 60 | 21 => 61 | 22 => 62 | 23 => 63 | 24 => 64 | 25 => 65 | 26 => 66 | 27 => 67 | 46 => 77 | 47 => 78 | 48 => 79 | 49 => 80 | 50 => 81 | 57 => 91 | n => n, fun | 22 => 27 | 24 => 37 | 25 => 80 | 3 => 3 | 39 => 102 | 0 => 0 | 53 => 126 | 55 => 128 | 4 => 4 | 46 => 119 | 45 => 118 | 50 => 123 | 5 => 5 | 9 => 9 | 66 => 133 | 70 => 94 | 76 => 143 | 77 => 144 | n => n, fun | n => n⟩
theorem Try.sortSp : Go.Proofs.SlLaysF0.n6 Try.prog Try.sortSp_ren := {
 mixed := by kernel_rfl
 f6 := ⟨Try.f30.name, by decide, Try.func30.trans (congrArg some (by kernel_rfl))⟩
 f14 := ⟨Try.f47.name, by decide, Try.func47.trans (congrArg some (by kernel_rfl))⟩
 f15 := Try.func48.trans (congrArg some (by kernel_rfl))
 f20 := ⟨Try.f60.name, by decide, Try.func60.trans (congrArg some (by kernel_rfl))⟩
 f21 := ⟨Try.f61.name, by decide, Try.func61.trans (congrArg some (by kernel_rfl))⟩
 f22 := ⟨Try.f62.name, by decide, Try.func62.trans (congrArg some (by kernel_rfl))⟩
 f23 := ⟨Try.f63.name, by decide, Try.func63.trans (congrArg some (by kernel_rfl))⟩
 f24 := ⟨Try.f64.name, by decide, Try.func64.trans (congrArg some (by kernel_rfl))⟩
 f25 := ⟨Try.f65.name, by decide, Try.func65.trans (congrArg some (by kernel_rfl))⟩
 f26 := ⟨Try.f66.name, by decide, Try.func66.trans (congrArg some (by kernel_rfl))⟩
 f27 := ⟨Try.f67.name, by decide, Try.func67.trans (congrArg some (by kernel_rfl))⟩
 f28 := Try.func68.trans (congrArg some (by kernel_rfl))
 f29 := Try.func69.trans (congrArg some (by kernel_rfl))
 f46 := ⟨Try.f77.name, by decide, Try.func77.trans (congrArg some (by kernel_rfl))⟩
 f47 := Try.func78.trans (congrArg some (by kernel_rfl))
 f48 := Try.func79.trans (congrArg some (by kernel_rfl))
 f49 := ⟨Try.f80.name, by decide, Try.func80.trans (congrArg some (by kernel_rfl))⟩
 f50 := ⟨Try.f81.name, by decide, Try.func81.trans (congrArg some (by kernel_rfl))⟩
 f57 := ⟨Try.f91.name, by decide, Try.func91.trans (congrArg some (by kernel_rfl))⟩
 t0 := Try.underlying0
 a0 := Try.isAgg0
 z0 := Try.sizeOf0
 v0 := Try.zeroValue0
 t3 := Try.underlying3
 a3 := Try.isAgg3
 z3 := Try.sizeOf3
 v3 := Try.zeroValue3
 t4 := Try.underlying4
 a4 := Try.isAgg4
 z4 := Try.sizeOf4
 v4 := Try.zeroValue4
 t5 := Try.underlying5
 a5 := Try.isAgg5
 z5 := Try.sizeOf5
 v5 := Try.zeroValue5
 t9 := Try.underlying9
 a9 := Try.isAgg9
 z9 := Try.sizeOf9
 v9 := Try.zeroValue9
 t22 := Try.underlying27
 a22 := Try.isAgg27
 z22 := Try.sizeOf27
 v22 := Try.zeroValue27
 t25 := Try.underlying80
 a25 := Try.isAgg80
 z25 := Try.sizeOf80
 v25 := Try.zeroValue80
 t39 := Try.underlying102
 a39 := Try.isAgg102
 z39 := Try.sizeOf102
 v39 := Try.zeroValue102
 t45 := Try.underlying118
 a45 := Try.isAgg118
 z45 := Try.sizeOf118
 v45 := Try.zeroValue118
 t46 := Try.underlying119
 a46 := Try.isAgg119
 z46 := Try.sizeOf119
 v46 := Try.zeroValue119
 t50 := Try.underlying123
 a50 := Try.isAgg123
 z50 := Try.sizeOf123
 v50 := Try.zeroValue123
 t53 := Try.underlying126
 a53 := Try.isAgg126
 z53 := Try.sizeOf126
 v53 := Try.zeroValue126
 t55 := Try.underlying128
 a55 := Try.isAgg128
 z55 := Try.sizeOf128
 v55 := Try.zeroValue128
 t66 := Try.underlying133
 a66 := Try.isAgg133
 z66 := Try.sizeOf133
 v66 := Try.zeroValue133
 t70 := Try.underlying94
 a70 := Try.isAgg94
 z70 := Try.sizeOf94
 v70 := Try.zeroValue94
 t76 := Try.underlying143
 a76 := Try.isAgg143
 z76 := Try.sizeOf143
 v76 := Try.zeroValue143
 t77 := Try.underlying144
 a77 := Try.isAgg144
 z77 := Try.sizeOf144
 v77 := Try.zeroValue144 }
end Go.Proofs
/- spans.Name of any string, by the library's ContainsFunc. -/
namespace Go.Proofs.Ytibakmchgppndaa
open Go.RowKit Go.Shelf Go.Lib

def oddP (c : Nat) : Bool := decide (c ≤ 32) || decide (126 < c)
theorem odd_all (c : Nat) (w : World) : Calls Try.prog 53 #[.int .i32 (c : Int)] w fun e w' => e = .returned (.bool (oddP c)) ∧ ∃ q, w' = w.drewN q := by
 unfold oddP
 by_cases h1 : (c : Int) ≤ 32
 ·go_enter Try.func53, Try.ntmps53
  go_wp2
  go_ret
  have e : decide (c ≤ 32) = true := by simp; omega
  exact ⟨by rw [e]; rfl, 0, rfl⟩
 ·by_cases h2 : (126 : Int) < (c : Int)
  ·go_enter Try.func53, Try.ntmps53
   go_wp2
   go_ret
   have e : decide (126 < c) = true := by simp; omega
   exact ⟨by rw [e, Bool.or_true]; rfl, 0, rfl⟩
  ·go_enter Try.func53, Try.ntmps53
   go_wp2
   go_ret
   have e1 : decide (c ≤ 32) = false := by simp; omega
   have e2 : decide (126 < c) = false := by simp; omega
   exact ⟨by rw [e1, e2]; rfl, 0, rfl⟩
theorem contains_all (s : ByteArray) (w : World) : Calls Try.prog 54 #[.string s, .func (.func 53) #[] #[]] w fun e w' => e = .returned (.bool (decide (0 ≤ Lib.idxFunc oddP true s))) ∧ Kept (fun _ => False) w w' := by
 have h := Any.strings_ContainsFunc Try.l17 53 #[] (enters_of Try.func53 (by kernel_rfl) rfl) oddP s w (fun W x _ => odd_all x W)
 change Calls Try.prog 54 _ _ _ at h
 exact h.mono fun e w' ⟨he, hb⟩ => ⟨he, hb.os, hb.tape, hb.output, hb.size, fun k hk _ => hb.block k hk⟩
def nameB (s : ByteArray) : Bool := decide (s.size ≠ 0) && decide (s.size ≤ 12) && !decide (0 ≤ Lib.idxFunc oddP true s)
set_option maxRecDepth 100000 in
theorem name_all (s : ByteArray) (hs : s.size ≤ 9223372036854775807) (w : World) : Calls Try.prog 41 #[.string s] w fun e w' => e = .returned (.bool (nameB s)) ∧ Kept (fun _ => False) w w' := by
 have C := Lib.hid (contains_all s)
 obtain ⟨B, hB⟩ : ∃ B, decide (0 ≤ Lib.idxFunc oddP true s) = B := ⟨_, rfl⟩
 rw [hB] at C
 unfold nameB
 rw [hB]
 clear hB
 by_cases h0 : s.size = 0
 ·have e2 : (s.toList == ([] : List UInt8)) = true := by
   have : s.toList = [] := nil_iff.2 h0
   simpa using this
  have e3 : decide (s.size ≠ 0) = false := by simp [h0]
  rw [e3]
  clear h0 e3
  go_enter Try.func41, Try.ntmps41
  go_wp2
  go_ret
  exact ⟨rfl, Kept.refl _ w⟩
 ·have e2 : (s.toList == ([] : List UInt8)) = false := by
   have : ¬ s.toList = [] := fun e => h0 (nil_iff.1 e)
   simpa using this
  have e3 : decide (s.size ≠ 0) = true := by simp [h0]
  rw [e3]
  by_cases h1 : (s.size : Int) ≤ 12
  ·have e4 : decide (s.size ≤ 12) = true := by simp; omega
   rw [e4]
   clear h0 e3 e4
   go_enter Try.func41, Try.ntmps41
   go_wp2_with (go_at_call 54; refine (C.out _).mono ?_; rintro e w4 ⟨rfl, k4⟩)
   go_ret
   exact ⟨by cases B <;> rfl, k4⟩
  ·have e4 : decide (s.size ≤ 12) = false := by simp; omega
   rw [e4]
   clear h0 e3 e4
   go_enter Try.func41, Try.ntmps41
   go_wp2
   go_ret
   exact ⟨rfl, Kept.refl _ w⟩
end Go.Proofs.Ytibakmchgppndaa
/- spans.Check of any span. -/
namespace Go.Proofs.Ytibakmchgppndaa
open Go.RowKit

def offJ : Nat → Nat | 0 => 0 | 1 => 1 | 2 => 2 | 3 => 5 | _ => 6
def leastJ : Nat → Int | 0 => 1 | 1 => 1 | _ => 0
def mostJ : Nat → Int | 0 => 2147483647 | 1 => 2147483647 | 2 => 2147483647 | _ => 1073741824
def numJ (m : Spn) : Nat → Int | 0 => m.tr | 1 => m.id | 2 => m.pa | 3 => m.st | _ => m.du
def okJ (m : Spn) (j : Nat) : Bool := decide (leastJ j ≤ numJ m j) && decide (numJ m j ≤ mostJ j)
def chkB (m : Spn) : Bool := okJ m 0 && okJ m 1 && okJ m 2 && okJ m 3 && okJ m 4 && nameB m.se && nameB m.ho && decide (m.no.size ≤ 24)
def errN : Bool → Int | true => 0 | false => 2
theorem chk_num {m : Spn} (h : chkB m = true) : (1 ≤ m.tr ∧ m.tr ≤ 2147483647) ∧ (1 ≤ m.id ∧ m.id ≤ 2147483647) ∧ (0 ≤ m.pa ∧ m.pa ≤ 2147483647) ∧ (0 ≤ m.st ∧ m.st ≤ 1073741824) ∧ (0 ≤ m.du ∧ m.du ≤ 1073741824) := by
 unfold chkB okJ leastJ mostJ numJ at h
 simp at h
 omega
theorem chk_not {m : Spn} {j : Nat} (hj : j < 5) (h : okJ m j = false) : chkB m = false := by
 unfold chkB
 obtain rfl | rfl | rfl | rfl | rfl : j = 0 ∨ j = 1 ∨ j = 2 ∨ j = 3 ∨ j = 4 := by omega
 all_goals simp [h]
theorem ixJ (p j : Nat) (hj : j < 5) (W : World) : (Instr.index 97 (numsV p) (.int .i64 (j : Int))).run Try.prog W = .ok (.agg #[.pointer (some ⟨p, offJ j, none⟩), .int .i64 (leastJ j), .int .i64 (mostJ j)]) W := by
 obtain rfl | rfl | rfl | rfl | rfl : j = 0 ∨ j = 1 ∨ j = 2 ∨ j = 3 ∨ j = 4 := by omega
 ·exact ix0 p W
 ·exact ix1 p W
 ·exact ix2 p W
 ·exact ix3 p W
 ·exact ix4 p W
/-- A span lies at a block's beginning. -/
def SpanAt (w : World) (g : Nat) (m : Spn) : Prop := ∀ j u, m.cells[j]? = some u → w.cell? ⟨g, j, none⟩ = some u
theorem SpanAt.kept {S : Nat → Prop} {w w' : World} {g : Nat} {m : Spn} (h : SpanAt w g m) (hK : Kept S w w') (hS : ¬ S g) : SpanAt w' g m := fun j u hj => hK.cell (h j u hj) hS
theorem SpanAt.keptF {w w' : World} {g : Nat} {m : Spn} (h : SpanAt w g m) (hK : Kept (fun _ => False) w w') : SpanAt w' g m := h.kept hK (fun f => f)
theorem SpanAt.new {w : World} {m : Spn} : SpanAt (w.alloc (.cells #[.int .i64 m.tr, .int .i64 m.id, .int .i64 m.pa, .string m.se, .string m.ho, .int .i64 m.st, .int .i64 m.du, .string m.no] 37)) w.heap.size m := by
 intro j u hj
 unfold Spn.cells at hj
 rcases j with _ | _ | _ | _ | _ | _ | _ | _ | j <;> simp at hj <;> subst hj <;> simp
theorem SpanAt.num {w : World} {g : Nat} {m : Spn} (h : SpanAt w g m) (j : Nat) : w.cell? ⟨g, offJ j, none⟩ = some (.int .i64 (numJ m j)) := by
 match j with
 | 0 => exact h 0 _ rfl
 | 1 => exact h 1 _ rfl
 | 2 => exact h 2 _ rfl
 | 3 => exact h 5 _ rfl
 | j + 4 => exact h 6 _ rfl
set_option maxHeartbeats 8000000 in
set_option maxRecDepth 100000 in
theorem check_all (m : Spn) (hs : m.se.size ≤ 9223372036854775807) (hh : m.ho.size ≤ 9223372036854775807) (hn : m.no.size ≤ 9223372036854775807) (w : World) : Calls Try.prog 29 #[aggS m] w fun e w' => e = .returned (.int .i64 (errN (chkB m))) ∧ Kept (fun _ => False) w w' := by
 have N0 := Lib.hid (name_all m.se hs)
 have N1 := Lib.hid (name_all m.ho hh)
 unfold aggS
 go_enter Try.func29, Try.ntmps29
 go_wp2_with fail
 obtain ⟨W, hW⟩ : ∃ W, w.alloc (.cells #[.int .i64 m.tr, .int .i64 m.id, .int .i64 m.pa, .string m.se, .string m.ho, .int .i64 m.st, .int .i64 m.du, .string m.no] 37) = W := ⟨_, rfl⟩
 have K0 : Kept (fun _ => False) w W := by rw [← hW]; exact (Kept.refl _ w).alloc _
 have q0 : SpanAt W w.heap.size m := by rw [← hW]; exact SpanAt.new
 rw [hW]
 clear hW
 refine (numbers_any w.heap.size W).mono ?_
 rintro e w1 ⟨rfl, k1⟩
 have K1 := Lib.hid (K0.trans k1 (fun _ _ f => f) (fun _ _ f => f) : Kept (fun _ => False) w w1)
 have Q1 := Lib.hid (q0.keptF k1)
 clear k1 K0 q0
 obtain ⟨nv, hnv⟩ : ∃ nv, numsV w.heap.size = nv := ⟨_, rfl⟩
 have X := Lib.hid (ixJ w.heap.size)
 rw [hnv] at X ⊢
 clear hnv
 obtain ⟨p, hp⟩ : ∃ p, w.heap.size = p := ⟨_, rfl⟩
 rw [hp] at X Q1 ⊢
 clear hp
 go_wp2
 go_loopg [6] 5 (fun g t wr => ∃ i : Nat, i + g = 5 ∧ t = .int .i64 i ∧ Kept (fun _ => False) w1 wr ∧ ∀ j, j < i → okJ m j = true)
 case atStart => exact ⟨0, by omega, rfl, Kept.refl _ _, fun j hj => absurd hj (Nat.not_lt_zero j)⟩
 case round =>
  obtain ⟨i, hi, rfl, KW, hok⟩ := hrel
  have KF := Lib.hid KW
  have HI := Lib.hid hi
  have OK := Lib.hid hok
  have QW := Lib.hid (Q1.out.keptF KW)
  clear KW hi hok
  by_cases h5 : i < 5
  ·have i1 : (i : Int) < 5 := by omega
   have x0 := X.out i h5
   obtain ⟨l, hl⟩ : ∃ l, leastJ i = l := ⟨_, rfl⟩
   obtain ⟨u, hu⟩ : ∃ u, mostJ i = u := ⟨_, rfl⟩
   obtain ⟨x, hx⟩ : ∃ x, numJ m i = x := ⟨_, rfl⟩
   obtain ⟨o, ho⟩ : ∃ o, offJ i = o := ⟨_, rfl⟩
   have qq := QW.out.num i
   rw [hx, ho] at qq
   rw [hl, hu, ho] at x0
   have HL := Lib.hid hl; have HU := Lib.hid hu; have HX := Lib.hid hx
   clear hl hu hx ho
   go_wp2
   obtain ⟨a0, a1, a2, _, _⟩ := (Kept.refl (fun _ => False) (wr.alloc (.cells #[.pointer (some ⟨p, o, none⟩), .int .i64 l, .int .i64 u] 96))).fresh3 (fun f => f)
   have KA := Lib.hid (KF.out.alloc (.cells #[.pointer (some ⟨p, o, none⟩), .int .i64 l, .int .i64 u] 96))
   have qq2 := ((Kept.refl (fun _ => False) wr).alloc (.cells #[.pointer (some ⟨p, o, none⟩), .int .i64 l, .int .i64 u] 96)).cell qq (fun f => f)
   obtain ⟨W2, hW2⟩ : ∃ W2, wr.alloc (.cells #[.pointer (some ⟨p, o, none⟩), .int .i64 l, .int .i64 u] 96) = W2 := ⟨_, rfl⟩
   rw [hW2] at a0 a1 a2 KA qq2 ⊢
   clear hW2 qq x0
   by_cases c1 : x < l
   ·go_region
    all_goals go_wp2
    all_goals go_ret
    have e : chkB m = false := chk_not h5 (by unfold okJ; rw [HX.out, HL.out]; simp; omega)
    exact ⟨by rw [e]; rfl, K1.out.trans KA.out.drew (fun _ _ f => f) (fun _ _ f => f)⟩
   ·by_cases c2 : u < x
    ·refine wp_region_held_drew (S := (fun w' => w'.cell? ⟨wr.heap.size, 0, none⟩ = some (.pointer (some ⟨p, o, none⟩)) ∧ w'.cell? ⟨wr.heap.size, 1, none⟩ = some (.int .i64 l) ∧ w'.cell? ⟨wr.heap.size, 2, none⟩ = some (.int .i64 u) ∧ w'.cell? ⟨p, o, none⟩ = some (.int .i64 x))) (by kernel_rfl) ?_ (fun hHeld => ?_)
     ·exact ⟨a0, a1, a2, qq2⟩
     refine tW 0 opAt0 hHeld ?_
     (try simp only [Act.put]); try simp only [z2, List.set]
     refine tW 1 opAt1 hHeld ?_
     (try simp only [Act.put]); try simp only [z2, List.set]
     refine tW 2 opAt2 hHeld ?_
     (try simp only [Act.put]); try simp only [z2, List.set]
     refine tW 3 opAt3 hHeld ?_
     (try simp only [Act.put]); try simp only [z2, List.set]
     refine tW 4 opAt4 hHeld ?_
     (try simp only [Act.put]); try simp only [z2, List.set]
     refine tW 5 opAt5 hHeld ?_
     (try simp only [Act.put]); try simp only [z2, List.set]
     refine tW 6 opAt6 hHeld ?_
     (try simp only [Act.put]); try simp only [z2, List.set]
     refine tW 7 opAt7 hHeld ?_
     (try simp only [Act.put]); try simp only [z2, List.set]
     refine tW 8 opAt8 hHeld ?_
     (try simp only [Act.put]); try simp only [z2, List.set]
     refine tW 9 opAt9 hHeld ?_
     (try simp only [Act.put]); try simp only [z2, List.set]
     refine tW 10 opAt10 hHeld ?_
     (try simp only [Act.put]); try simp only [z2, List.set]
     refine tW 11 opAt11 hHeld ?_
     (try simp only [Act.put]); try simp only [z2, List.set]
     refine tW 12 opAt12 hHeld ?_
     (try simp only [Act.put]); try simp only [z2, List.set]
     refine tW 13 opAt13 hHeld ?_
     (try simp only [Act.put]); try simp only [z2, List.set]
     refine tW 14 opAt14 hHeld ?_
     (try simp only [Act.put]); try simp only [z2, List.set]
     refine tW 15 opAt15 hHeld ?_
     (try simp only [Act.put]); try simp only [z2, List.set]
     refine wpAnyH_done (by kernel_rfl) ?_ _
     go_wp2
     go_ret
     have e : chkB m = false := chk_not h5 (by unfold okJ; rw [HX.out, HU.out]; simp; omega)
     exact ⟨by rw [e]; rfl, K1.out.trans KA.out.drew (fun _ _ f => f) (fun _ _ f => f)⟩
    ·refine wp_region_held_drew (S := (fun w' => w'.cell? ⟨wr.heap.size, 0, none⟩ = some (.pointer (some ⟨p, o, none⟩)) ∧ w'.cell? ⟨wr.heap.size, 1, none⟩ = some (.int .i64 l) ∧ w'.cell? ⟨wr.heap.size, 2, none⟩ = some (.int .i64 u) ∧ w'.cell? ⟨p, o, none⟩ = some (.int .i64 x))) (by kernel_rfl) ?_ (fun hHeld => ?_)
     ·exact ⟨a0, a1, a2, qq2⟩
     refine tW 0 opAt0 hHeld ?_
     (try simp only [Act.put]); try simp only [z2, List.set]
     refine tW 1 opAt1 hHeld ?_
     (try simp only [Act.put]); try simp only [z2, List.set]
     refine tW 2 opAt2 hHeld ?_
     (try simp only [Act.put]); try simp only [z2, List.set]
     refine tW 3 opAt3 hHeld ?_
     (try simp only [Act.put]); try simp only [z2, List.set]
     refine tW 4 opAt4 hHeld ?_
     (try simp only [Act.put]); try simp only [z2, List.set]
     refine tW 5 opAt5 hHeld ?_
     (try simp only [Act.put]); try simp only [z2, List.set]
     refine tW 6 opAt6 hHeld ?_
     (try simp only [Act.put]); try simp only [z2, List.set]
     refine tW 7 opAt7 hHeld ?_
     (try simp only [Act.put]); try simp only [z2, List.set]
     refine tW 8 opAt8 hHeld ?_
     (try simp only [Act.put]); try simp only [z2, List.set]
     refine tW 9 opAt9 hHeld ?_
     (try simp only [Act.put]); try simp only [z2, List.set]
     refine tW 10 opAt10 hHeld ?_
     (try simp only [Act.put]); try simp only [z2, List.set]
     refine tW 11 opAt11 hHeld ?_
     (try simp only [Act.put]); try simp only [z2, List.set]
     refine tW 12 opAt12 hHeld ?_
     (try simp only [Act.put]); try simp only [z2, List.set]
     refine tW 13 opAt13 hHeld ?_
     (try simp only [Act.put]); try simp only [z2, List.set]
     refine tW 14 opAt14 hHeld ?_
     (try simp only [Act.put]); try simp only [z2, List.set]
     refine tW 15 opAt15 hHeld ?_
     (try simp only [Act.put]); try simp only [z2, List.set]
     refine wpAnyH_done (by kernel_rfl) ?_ _
     go_wp2
     go_roundg (5 - i - 1)
     case measure => have := HI.out; omega
     case rel =>
      refine ⟨i + 1, by omega, by go_num, KA.out.drew, fun j hj => ?_⟩
      rcases Nat.lt_or_ge j i with h | h
      ·exact OK.out j h
      ·obtain rfl : j = i := by omega
       unfold okJ; rw [HX.out, HL.out, HU.out]; simp; omega
  ·have i1 : ¬ (i : Int) < 5 := by omega
   obtain ⟨b0, hb0⟩ : ∃ b, nameB m.se = b := ⟨_, rfl⟩
   obtain ⟨b1, hb1⟩ : ∃ b, nameB m.ho = b := ⟨_, rfl⟩
   have q3 := QW.out 3 _ rfl
   have q4 := QW.out 4 _ rfl
   have q7 := QW.out 7 _ rfl
   have E : chkB m = (b0 && b1 && decide (m.no.size ≤ 24)) := by
    unfold chkB
    have h := OK.out
    have hi := HI.out
    rw [h 0 (by omega), h 1 (by omega), h 2 (by omega), h 3 (by omega), h 4 (by omega), hb0, hb1]
    rfl
   have EE := Lib.hid E
   clear E
   rw [hb0] at N0
   rw [hb1] at N1
   clear hb0 hb1
   by_cases h24 : (24 : Int) < (m.no.size : Int)
   ·have e24 : decide (m.no.size ≤ 24) = false := by simp; omega
    rw [e24] at EE
    go_wp2_with fail
    refine (N0.out _).mono ?_
    rintro e w2 ⟨rfl, k2⟩
    replace q4 := k2.cell q4 (fun f => f)
    replace q7 := k2.cell q7 (fun f => f)
    have K2 := Lib.hid (KF.out.trans k2 (fun _ _ f => f) (fun _ _ f => f) : Kept (fun _ => False) w1 w2)
    clear k2
    cases b0 with
    | false =>
     go_wp2
     go_ret
     exact ⟨by rw [EE.out]; rfl, K1.out.trans K2.out (fun _ _ f => f) (fun _ _ f => f)⟩
    | true =>
     go_wp2_with fail
     refine (N1.out _).mono ?_
     rintro e w3 ⟨rfl, k3⟩
     replace q7 := k3.cell q7 (fun f => f)
     have K3 := Lib.hid (K2.out.trans k3 (fun _ _ f => f) (fun _ _ f => f) : Kept (fun _ => False) w1 w3)
     clear k3
     cases b1 with
     | false =>
      go_wp2
      go_ret
      exact ⟨by rw [EE.out]; rfl, K1.out.trans K3.out (fun _ _ f => f) (fun _ _ f => f)⟩
     | true =>
      go_wp2
      go_ret
      exact ⟨by rw [EE.out]; rfl, K1.out.trans K3.out (fun _ _ f => f) (fun _ _ f => f)⟩
   ·have e24 : decide (m.no.size ≤ 24) = true := by simp; omega
    rw [e24] at EE
    go_wp2_with fail
    refine (N0.out _).mono ?_
    rintro e w2 ⟨rfl, k2⟩
    replace q4 := k2.cell q4 (fun f => f)
    replace q7 := k2.cell q7 (fun f => f)
    have K2 := Lib.hid (KF.out.trans k2 (fun _ _ f => f) (fun _ _ f => f) : Kept (fun _ => False) w1 w2)
    clear k2
    cases b0 with
    | false =>
     go_wp2
     go_ret
     exact ⟨by rw [EE.out]; rfl, K1.out.trans K2.out (fun _ _ f => f) (fun _ _ f => f)⟩
    | true =>
     go_wp2_with fail
     refine (N1.out _).mono ?_
     rintro e w3 ⟨rfl, k3⟩
     replace q7 := k3.cell q7 (fun f => f)
     have K3 := Lib.hid (K2.out.trans k3 (fun _ _ f => f) (fun _ _ f => f) : Kept (fun _ => False) w1 w3)
     clear k3
     cases b1 with
     | false =>
      go_wp2
      go_ret
      exact ⟨by rw [EE.out]; rfl, K1.out.trans K3.out (fun _ _ f => f) (fun _ _ f => f)⟩
     | true =>
      go_wp2
      go_ret
      exact ⟨by rw [EE.out]; rfl, K1.out.trans K3.out (fun _ _ f => f) (fun _ _ f => f)⟩
end Go.Proofs.Ytibakmchgppndaa
/- What a model holds, and what it takes: plain lists. -/
namespace Go.Proofs.Ytibakmchgppndaa
open Go.RowKit Go.MapKept Go.Instr Go.ChangeMaps

def keyOf (m : Spn) : Int × Int := (m.tr, m.id)
def kvM (M : List Spn) : List KV := M.map (fun m => (keyOf m, aggS m))
def kvS (K : List (Int × Int)) : List KV := K.map (fun k => (k, .int .i64 1))
def lookM (k : Int × Int) : List Spn → Option Spn
 | [] => none
 | m :: t => if k = keyOf m then some m else lookM k t
def putM (s : Spn) : List Spn → List Spn
 | [] => [s]
 | m :: t => if keyOf s = keyOf m then s :: t else m :: putM s t
def zeroS : Spn := ⟨0, 0, 0, ⟨#[]⟩, ⟨#[]⟩, 0, 0, ⟨#[]⟩⟩
theorem idxL_cons (k : Int × Int) (p : KV) (t : List KV) : idxL k (p :: t) = if k = p.1 then some 0 else (idxL k t).map (· + 1) := rfl
theorem oldL_cons (k : Int × Int) (z : Value) (p : KV) (t : List KV) : oldL k z (p :: t) = if k = p.1 then p.2 else oldL k z t := by
 unfold oldL
 rw [idxL_cons]
 by_cases e : k = p.1
 ·simp [e]
 ·simp only [e, if_false]
  cases hi : idxL k t with
  | none => simp
  | some j => simp
theorem putL_cons (k : Int × Int) (v : Value) (p : KV) (t : List KV) : putL k v (p :: t) = if k = p.1 then (k, v) :: t else p :: putL k v t := by
 unfold putL stampL
 rw [idxL_cons]
 by_cases e : k = p.1
 ·simp [e]
 ·simp only [e, if_false]
  cases hi : idxL k t with
  | none => simp
  | some j => simp
theorem old_kvM (k : Int × Int) : ∀ M, oldL k spanZ (kvM M) = aggS ((lookM k M).getD zeroS)
 | [] => rfl
 | m :: t => by
  rw [kvM, List.map_cons, oldL_cons, lookM]
  by_cases e : k = keyOf m
  ·simp [e]
  ·simp only [e, if_false]; exact old_kvM k t
theorem idx_kvM (k : Int × Int) : ∀ M, (idxL k (kvM M)).isSome = (lookM k M).isSome
 | [] => rfl
 | m :: t => by
  rw [kvM, List.map_cons, idxL, lookM]
  by_cases e : k = keyOf m
  ·simp [e]
  ·simp only [e, if_false, Option.isSome_map]; exact idx_kvM k t
theorem put_kvM (s : Spn) : ∀ M, putL (keyOf s) (aggS s) (kvM M) = kvM (putM s M)
 | [] => rfl
 | m :: t => by
  rw [kvM, List.map_cons, putL_cons, putM]
  by_cases e : keyOf s = keyOf m
  ·simp [e, kvM]
  ·simp only [e, if_false]; rw [kvM, List.map_cons]; congr 1; exact put_kvM s t
def oneN (b : Bool) : Int := if b then 1 else 0
theorem old_kvS (k : Int × Int) : ∀ K : List (Int × Int), oldL k (.int .i64 0) (kvS K) = .int .i64 (oneN (decide (k ∈ K)))
 | [] => rfl
 | a :: t => by
  rw [kvS, List.map_cons, oldL_cons]
  by_cases e : k = a
  ·simp [e, oneN]
  ·simp only [e, if_false, List.mem_cons, false_or]; exact old_kvS k t
theorem put_kvS (k : Int × Int) : ∀ K : List (Int × Int), k ∉ K → putL k (.int .i64 1) (kvS K) = kvS (K ++ [k])
 | [], _ => rfl
 | a :: t, h => by
  simp only [List.mem_cons, not_or] at h
  rw [kvS, List.map_cons, putL_cons]
  simp only [h.1, if_false, List.cons_append]; rw [kvS, List.map_cons]; congr 1; exact put_kvS k t h.2
/-- What is there bars a span from coming. -/
def hasB (now : Int) (k : Int × Int) (M : List Spn) : Bool := match lookM k M with
 | some o => !lateB o.st now
 | none => false
def skipB (now : Int) (M : List Spn) (K : List (Int × Int)) (s : Spn) : Bool := !chkB s || lateB s.st now || decide (keyOf s ∈ K) || hasB now (keyOf s) M
def takeF (now : Int) : List Spn → List Spn → List (Int × Int) → List Spn × Nat
 | [], M, _ => (M, 0)
 | s :: t, M, K => if skipB now M K s = true then takeF now t M K else ((takeF now t (putM s M) (K ++ [keyOf s])).1, (takeF now t (putM s M) (K ++ [keyOf s])).2 + 1)
theorem take_skip {now : Int} {s : Spn} {t M : List Spn} {K : List (Int × Int)} (h : skipB now M K s = true) : takeF now (s :: t) M K = takeF now t M K := by rw [takeF, if_pos h]
theorem take_put {now : Int} {s : Spn} {t M : List Spn} {K : List (Int × Int)} (h : skipB now M K s = false) : takeF now (s :: t) M K = ((takeF now t (putM s M) (K ++ [keyOf s])).1, (takeF now t (putM s M) (K ++ [keyOf s])).2 + 1) := by rw [takeF, if_neg (by simp [h])]
theorem take_le (now : Int) : ∀ t M K, (takeF now t M K).2 ≤ t.length
 | [], M, K => Nat.le_refl _
 | s :: t, M, K => by
  cases h : skipB now M K s with
  | true => rw [take_skip h]; have := take_le now t M K; simp; omega
  | false => rw [take_put h]; have := take_le now t (putM s M) (K ++ [keyOf s]); simp; omega
theorem mem_putM {s x : Spn} : ∀ {M : List Spn}, x ∈ putM s M → x = s ∨ x ∈ M
 | [], h => by simp [putM] at h; exact .inl h
 | m :: t, h => by
  rw [putM] at h
  split at h
  ·rcases List.mem_cons.1 h with h | h
   ·exact .inl h
   ·exact .inr (List.mem_cons_of_mem _ h)
  ·rcases List.mem_cons.1 h with h | h
   ·exact .inr (h ▸ List.mem_cons_self)
   ·rcases mem_putM h with h | h
    ·exact .inl h
    ·exact .inr (List.mem_cons_of_mem _ h)
/-- Spans that may be, no two of the same key. -/
structure Held (M : List Spn) : Prop where
 may : ∀ m ∈ M, chkB m = true
 once : (M.map keyOf).Nodup
theorem keys_putM (s : Spn) : ∀ M : List Spn, (putM s M).map keyOf = if keyOf s ∈ M.map keyOf then M.map keyOf else M.map keyOf ++ [keyOf s]
 | [] => rfl
 | m :: t => by
  rw [putM]
  by_cases e : keyOf s = keyOf m
  ·simp [e]
  ·simp only [e, if_false, List.map_cons, keys_putM s t, List.mem_cons, false_or]
   split <;> rfl
theorem Held.put {M : List Spn} (h : Held M) {s : Spn} (hs : chkB s = true) : Held (putM s M) := by
 refine ⟨fun m hm => ?_, ?_⟩
 ·rcases mem_putM hm with rfl | hm
  ·exact hs
  ·exact h.may m hm
 ·rw [keys_putM]
  split
  ·exact h.once
  ·rename_i hn
   rw [List.nodup_append]
   refine ⟨h.once, by simp, fun a ha b hb => ?_⟩
   simp at hb; subst hb
   exact fun e => hn (e ▸ ha)
theorem Held.nil : Held [] := ⟨fun m hm => (by cases hm), by simp⟩
theorem skip_chk {now : Int} {M : List Spn} {K : List (Int × Int)} {s : Spn} (h : skipB now M K s = false) : chkB s = true := by
 unfold skipB at h; simp at h; exact h.1.1.1
theorem Held.take {now : Int} : ∀ (t : List Spn) {M : List Spn} {K : List (Int × Int)}, Held M → Held (takeF now t M K).1
 | [], M, K, h => h
 | s :: t, M, K, h => by
  cases hs : skipB now M K s with
  | true => rw [take_skip hs]; exact Held.take t h
  | false => rw [take_put hs]; exact Held.take t (h.put (skip_chk hs))
theorem look_mem {k : Int × Int} : ∀ {M : List Spn} {o : Spn}, lookM k M = some o → o ∈ M ∧ keyOf o = k
 | [], o, h => by simp [lookM] at h
 | m :: t, o, h => by
  rw [lookM] at h
  split at h
  ·rename_i e; cases h; exact ⟨List.mem_cons_self, e.symm⟩
  ·have := look_mem h; exact ⟨List.mem_cons_of_mem _ this.1, this.2⟩
theorem look_of_mem : ∀ {M : List Spn} {s : Spn}, (M.map keyOf).Nodup → s ∈ M → lookM (keyOf s) M = some s
 | m :: t, s, hn, h => by
  rw [List.map_cons, List.nodup_cons] at hn
  rw [lookM]
  rcases List.mem_cons.1 h with rfl | h
  ·simp
  ·have : keyOf s ≠ keyOf m := fun e => hn.1 (e ▸ List.mem_map_of_mem h)
   rw [if_neg this]
   exact look_of_mem hn.2 h
/-- Of spans that are there, and have not expired, none is taken. -/
theorem take_again {now : Int} {M : List Spn} (h : Held M) : ∀ (l : List Spn) (K : List (Int × Int)), (∀ s ∈ l, s ∈ M ∧ lateB s.st now = false) → takeF now l M K = (M, 0)
 | [], K, _ => rfl
 | s :: t, K, hl => by
  obtain ⟨h1, h2⟩ := hl s List.mem_cons_self
  have hs : skipB now M K s = true := by
   unfold skipB hasB
   rw [look_of_mem h.once h1]
   simp [h2]
  rw [take_skip hs]
  exact take_again h t K (fun x hx => hl x (List.mem_cons_of_mem _ hx))
theorem len_putM (s : Spn) : ∀ M : List Spn, (putM s M).length ≤ M.length + 1
 | [] => Nat.le_refl _
 | m :: t => by
  rw [putM]
  split
  ·simp
  ·have := len_putM s t; simp; omega
theorem len_take (now : Int) : ∀ (t M : List Spn) (K : List (Int × Int)), (takeF now t M K).1.length ≤ M.length + t.length
 | [], M, K => Nat.le_refl _
 | s :: t, M, K => by
  cases h : skipB now M K s with
  | true => rw [take_skip h]; have := len_take now t M K; simp; omega
  | false => rw [take_put h]; have := len_take now t (putM s M) (K ++ [keyOf s]); have := len_putM s M; simp; omega
end Go.Proofs.Ytibakmchgppndaa
/- (*Model).Take of any spans. -/
namespace Go.Proofs.Ytibakmchgppndaa
open Go.RowKit Go.MapKept Go.Instr Go.ChangeMaps

/-- A model's block p, whose map lies in block b and holds these. -/
structure ModelAt (w : World) (p b : Nat) (M : List Spn) : Prop where
 cell : w.cell? ⟨p, 0, none⟩ = some (.map (some b))
 map : MapIs w b (kvM M)
 may : ∀ m ∈ M, chkB m = true
theorem ModelAt.kept {S : Nat → Prop} {w w' : World} {p b : Nat} {M : List Spn} (h : ModelAt w p b M) (hK : Kept S w w') (h1 : ¬ S p) (h2 : ¬ S b) : ModelAt w' p b M := ⟨hK.cell h.cell h1, h.map.kept hK h2, h.may⟩
theorem ModelAt.keptF {w w' : World} {p b : Nat} {M : List Spn} (h : ModelAt w p b M) (hK : Kept (fun _ => False) w w') : ModelAt w' p b M := h.kept hK (fun f => f) (fun f => f)
theorem look_at {w : World} {b : Nat} {M : List Spn} (h : MapIs w b (kvM M)) (x y : Int) : (Instr.lookup 68 (.map (some b)) (.agg #[.int .i64 x, .int .i64 y]) true).run Try.prog w = .ok (.tuple #[aggS ((lookM (x, y) M).getD zeroS), .bool (lookM (x, y) M).isSome]) w := by
 have h2 := look68 h (x, y)
 rw [old_kvM, idx_kvM] at h2
 exact h2
theorem seen_at {w : World} {b : Nat} {K : List (Int × Int)} (h : MapIs w b (kvS K)) (x y : Int) : (Instr.lookup 72 (.map (some b)) (.agg #[.int .i64 x, .int .i64 y]) false).run Try.prog w = .ok (.int .i64 (oneN (decide ((x, y) ∈ K)))) w := by
 have h2 := look72 h (x, y)
 rw [old_kvS] at h2
 exact h2
theorem drop_step {L : List Spn} {i : Nat} {m : Spn} (h : L[i]? = some m) : m :: L.drop (i + 1) = L.drop i := by
 obtain ⟨hl, e⟩ := List.getElem?_eq_some_iff.1 h
 rw [← e]; exact (List.drop_eq_getElem_cons hl).symm
/-- Texts whose lengths are numbers. -/
def Fits (m : Spn) : Prop := m.se.size ≤ 9223372036854775807 ∧ m.ho.size ≤ 9223372036854775807 ∧ m.no.size ≤ 9223372036854775807

set_option maxHeartbeats 16000000 in
set_option maxRecDepth 100000 in
theorem take_all {w : World} {p b : Nat} {v : Value} {L M0 : List Spn} (now : Int) (h1 : 0 ≤ now) (h2 : now ≤ 4294967296) (hp : ModelAt w p b M0) (hM0 : Held M0) (hv : ReadsS w v L) (hl : L.length ≤ 9223372036854775806) (hf : ∀ m ∈ L, Fits m) :
  Calls Try.prog 9 #[.pointer (some ⟨p, 0, none⟩), v, .int .i64 now] w fun e w' => e = .returned (.int .i64 ((takeF now L M0 []).2 : Nat)) ∧ Kept (fun k => k = b) w w' ∧ ModelAt w' p b (takeF now L M0 []).1 := by
 obtain ⟨ao, cap, rfl, hv⟩ := hv
 have N := Lib.hid (none_not p b w hp.cell)
 have HP := Lib.hid hp
 have HV := Lib.hid hv
 have LL := Lib.hid hl
 have FF := Lib.hid hf
 have HM0 := Lib.hid hM0
 have MK : ∀ W : World, (makeMap 72 none).run Try.prog W = .ok (.map (some W.heap.size)) (W.alloc (.map #[] 0)) := fun W => run_makeMap 72 W
 have BL0 := Lib.hid hp.map.lt
 obtain ⟨TF, hTF⟩ : ∃ T, takeF now L M0 [] = T := ⟨_, rfl⟩
 have T0 := Lib.hid hTF
 rw [hTF]
 clear hv hp hl hf hM0 hTF
 go_enter Try.func9, Try.ntmps9
 go_wp2_with (go_at_call 28; refine N.out.mono ?_; rintro e w4 ⟨rfl, rfl⟩)
 obtain ⟨sb, hsb⟩ : ∃ s, w.heap.size = s := ⟨_, rfl⟩
 have SB := Lib.hid (Nat.le_of_eq hsb)
 have NBS := Lib.hid (show ¬ sb = b from fun e => by have := BL0.out; omega)
 have SBE := Lib.hid hsb
 rw [hsb]
 clear hsb
 go_loopg [7, 19] L.length (fun gh s t wr => ∃ (i n : Nat) (M : List Spn) (KK : List (Int × Int)), i + gh = L.length ∧ t = .int .i64 i ∧ s = .int .i64 n ∧ n ≤ i ∧ Held M ∧ Kept (fun k => k = b) w wr ∧ ModelAt wr p b M ∧ MapIs wr sb (kvS KK) ∧ (takeF now (L.drop i) M KK).1 = TF.1 ∧ (n + (takeF now (L.drop i) M KK).2 = TF.2))
 case atStart =>
  have e0 : MapIs (w.alloc (.map #[] 0)) sb (kvS []) := by rw [← SBE.out]; exact heap_alloc_new w _
  exact ⟨0, 0, M0, [], by omega, rfl, rfl, Nat.le_refl _, HM0.out, (Kept.refl _ w).alloc _, HP.out.keptF ((Kept.refl _ w).alloc _), e0, by rw [List.drop_zero, T0.out], by rw [List.drop_zero, T0.out]; omega⟩
 case round =>
  obtain ⟨i, n, M, KK, ji, rfl, rfl, ni, hM, kf, hmod, hs, t1, t2⟩ := hrel
  have JI := Lib.hid ji; have NI := Lib.hid ni; have HM := Lib.hid hM; have KF := Lib.hid kf; have TI := Lib.hid (And.intro t1 t2)
  have p0 := hmod.cell
  have hb := hmod.map
  clear ji ni hM kf t1 t2 hmod
  by_cases hlt : i < L.length
  ·obtain ⟨m, hm⟩ : ∃ m, L[i]? = some m := ⟨_, List.getElem?_eq_getElem hlt⟩
   have HMM := Lib.hid hm
   have fm := FF.out m (List.mem_of_getElem? hm)
   have C := Lib.hid (check_all m fm.1 fm.2.1 fm.2.2)
   obtain ⟨bc, hbc⟩ : ∃ c, chkB m = c := ⟨_, rfl⟩
   have BC := Lib.hid hbc
   rw [hbc] at C
   obtain ⟨g, og, rfl, hcs⟩ : ∃ g o, ao = some ⟨g, o, none⟩ ∧ ∀ j u, (cellsS L)[j]? = some u → w.cell? ⟨g, o + j, none⟩ = some u := by
    rcases HV.out with h0 | ⟨g, o, h, hc⟩
    ·rw [h0] at hlt; simp at hlt
    ·exact ⟨g, o, h, hc⟩
   have ngb : ¬ g = b := fun e => by
    have h := HP.out.map.not_cell (j := og + i * 8)
    rw [← e, (ReadsS.at hcs hm).1] at h; cases h
   obtain ⟨q0, q1, q2, q3, q4, q5, q6, q7⟩ := ReadsS.at hcs hm
   replace q0 := KF.out.cell q0 ngb
   replace q1 := KF.out.cell q1 ngb
   replace q2 := KF.out.cell q2 ngb
   replace q3 := KF.out.cell q3 ngb
   replace q4 := KF.out.cell q4 ngb
   replace q5 := KF.out.cell q5 ngb
   replace q6 := KF.out.cell q6 ngb
   replace q7 := KF.out.cell q7 ngb
   have i1 : (0 : Int) ≤ (i : Int) := by omega
   have i2 : (i : Int) < (L.length : Int) := by omega
   have i5 : (i : Int) ≤ 9223372036854775805 := by have := LL.out; omega
   obtain ⟨o, ho⟩ : ∃ o, (lookM (m.tr, m.id) M).getD zeroS = o := ⟨_, rfl⟩
   obtain ⟨f, hof⟩ : ∃ f, (lookM (m.tr, m.id) M).isSome = f := ⟨_, rfl⟩
   have LO := Lib.hid ho
   have LF := Lib.hid hof
   clear hcs ngb hbc ho hof hm fm
   go_wp2
   obtain ⟨W, hW⟩ : ∃ W, (wr.alloc (.cells #[.int .i64 m.tr, .int .i64 m.id, .int .i64 m.pa, .string m.se, .string m.ho, .int .i64 m.st, .int .i64 m.du, .string m.no] 37)).alloc (.cells #[.int .i64 m.tr, .int .i64 m.id] 74) = W := ⟨_, rfl⟩
   obtain ⟨ns, hns⟩ : ∃ ns, wr.heap.size = ns := ⟨_, rfl⟩
   obtain ⟨nk, hnk⟩ : ∃ nk, ns + 1 = nk := ⟨_, rfl⟩
   have kA : Kept (fun _ => False) wr (wr.alloc (.cells #[.int .i64 m.tr, .int .i64 m.id, .int .i64 m.pa, .string m.se, .string m.ho, .int .i64 m.st, .int .i64 m.du, .string m.no] 37)) := (Kept.refl _ wr).alloc _
   have kB : Kept (fun _ => False) (wr.alloc (.cells #[.int .i64 m.tr, .int .i64 m.id, .int .i64 m.pa, .string m.se, .string m.ho, .int .i64 m.st, .int .i64 m.du, .string m.no] 37)) W := by rw [← hW]; exact (Kept.refl _ _).alloc _
   have k0 : W.cell? ⟨nk, 0, none⟩ = some (.int .i64 m.tr) := by rw [← hW, ← hnk, ← hns]; simp
   have k1 : W.cell? ⟨nk, 1, none⟩ = some (.int .i64 m.id) := by rw [← hW, ← hnk, ← hns]; simp
   have sm : SpanAt W ns m := by rw [← hns]; exact SpanAt.new.keptF kB
   have kC := keptFF kA kB
   replace p0 := kC.cell p0 (fun f => f)
   replace hb := hb.kept kC (fun f => f)
   replace hs := hs.kept kC (fun f => f)
   have KC := Lib.hid kC
   rw [hW, hns, hnk]
   clear hW kA kB kC q0 q1 q2 q3 q4 q5 q6 q7 hns hnk
   refine wp_region_held_drew (S := (fun w' => w'.cell? ⟨p, 0, none⟩ = some (.map (some b)) ∧ w'.cell? ⟨nk, 0, none⟩ = some (.int .i64 m.tr) ∧ w'.cell? ⟨nk, 1, none⟩ = some (.int .i64 m.id) ∧ MapIs w' b (kvM M))) (by kernel_rfl) ?_ (fun hHeld => ?_)
   ·exact ⟨p0, k0, k1, hb⟩
   refine tW 0 opAt0 hHeld ?_
   (try simp only [Act.put]); try simp only [z2, List.set]
   refine tW 1 opAt1 hHeld ?_
   (try simp only [Act.put]); try simp only [z2, List.set]
   refine tW 2 opAt2 hHeld ?_
   (try simp only [Act.put]); try simp only [z2, List.set]
   refine tW 3 opAt3 hHeld ?_
   (try simp only [Act.put]); try simp only [z2, List.set]
   refine tW 4 opAt4 hHeld ?_
   (try simp only [Act.put]); try simp only [z2, List.set]
   refine tH (v := ?_) 5 opAt5 ?_ hHeld ?_
   case refine_2 => (intro w hSw; (try dsimp only at hSw); have LK := look_at hSw.2.2.2 m.tr m.id; rw [LO.out, LF.out] at LK; unfold aggS at LK; have q0 := hSw.1; have q1 := hSw.2.1; have q2 := hSw.2.2.1; clear hSw; go_simp; all_goals (with_reducible rfl))
   (try simp only [Act.put]); try simp only [z2, List.set]
   refine tW 6 opAt6 hHeld ?_
   (try simp only [Act.put]); try simp only [z2, List.set]
   refine tW 7 opAt7 hHeld ?_
   (try simp only [Act.put]); try simp only [z2, List.set]
   refine tW 8 opAt8 hHeld ?_
   (try simp only [Act.put]); try simp only [z2, List.set]
   refine wpAnyH_ready (rs := [9]) (by kernel_rfl) (by simp) ?_
   refine AllReadyH.cons opAt9 (fun K hK => ?_) AllReadyH.nil
   go_simp
   skip
   refine hK.out _ _ ?_ (fun hHeld => ?_)
   ·exact ⟨(((Kept.refl (fun _ => False) W).alloc _).drew).cell p0 (fun f => f), (((Kept.refl (fun _ => False) W).alloc _).drew).cell k0 (fun f => f), (((Kept.refl (fun _ => False) W).alloc _).drew).cell k1 (fun f => f), hb.kept (((Kept.refl (fun _ => False) W).alloc _).drew) (fun f => f)⟩
   clear hK K
   (try simp only [Act.put]); try simp only [z2, List.set]
   refine wpAnyH_ready (rs := [10]) (by kernel_rfl) (by simp) ?_
   refine AllReadyH.cons opAt10 (fun K hK => ?_) AllReadyH.nil
   go_simp
   skip
   refine hK.out _ _ ?_ (fun hHeld => ?_)
   ·exact ⟨(((Kept.refl (fun _ => False) W).alloc _).drew).cell p0 (fun f => f), (((Kept.refl (fun _ => False) W).alloc _).drew).cell k0 (fun f => f), (((Kept.refl (fun _ => False) W).alloc _).drew).cell k1 (fun f => f), hb.kept (((Kept.refl (fun _ => False) W).alloc _).drew) (fun f => f)⟩
   clear hK K
   (try simp only [Act.put]); try simp only [z2, List.set]
   refine tW 11 opAt11 hHeld ?_
   (try simp only [Act.put]); try simp only [z2, List.set]
   refine wpAnyH_done (by kernel_rfl) ?_ _
   obtain ⟨W5, hW5⟩ : ∃ W5, (W.alloc (.cells #[.int .i64 o.tr, .int .i64 o.id, .int .i64 o.pa, .string o.se, .string o.ho, .int .i64 o.st, .int .i64 o.du, .string o.no] 37)).drew = W5 := ⟨_, rfl⟩
   have k5 : Kept (fun _ => False) W W5 := by rw [← hW5]; exact ((Kept.refl _ W).alloc _).drew
   obtain ⟨no, hno⟩ : ∃ no, W.heap.size = no := ⟨_, rfl⟩
   have so : SpanAt W5 no o := by rw [← hW5, ← hno]; exact (SpanAt.new (w := W) (m := o)).keptF ((Kept.refl _ _).drew)
   rw [hW5, hno]
   replace p0 := k5.cell p0 (fun f => f)
   replace k0 := k5.cell k0 (fun f => f)
   replace k1 := k5.cell k1 (fun f => f)
   replace sm := sm.keptF k5
   replace hb := hb.kept k5 (fun f => f)
   replace hs := hs.kept k5 (fun f => f)
   have K5 := Lib.hid (keptFF KC.out k5)
   clear hW5 k5 hno
   have s0 := sm 0 _ rfl; have s1 := sm 1 _ rfl; have s2 := sm 2 _ rfl; have s3 := sm 3 _ rfl; have s4 := sm 4 _ rfl; have s5 := sm 5 _ rfl; have s6 := sm 6 _ rfl; have s7 := sm 7 _ rfl
   go_wp2_with fail
   refine (C.out _).mono ?_
   rintro e w6 ⟨rfl, k6⟩
   replace p0 := k6.cell p0 (fun f => f)
   replace k0 := k6.cell k0 (fun f => f)
   replace k1 := k6.cell k1 (fun f => f)
   replace sm := sm.keptF k6
   replace so := so.keptF k6
   replace hb := hb.kept k6 (fun f => f)
   replace hs := hs.kept k6 (fun f => f)
   have K6 := Lib.hid (keptFF K5.out k6)
   clear k6
   clear s0 s1 s2 s3 s4 s5 s6 s7
   cases bc with
   | false =>
    go_wp2
    go_roundg (L.length - i - 1)
    case measure => have := JI.out; omega
    case rel =>
     have hsk : skipB now M KK m = true := by unfold skipB; rw [BC.out]; rfl
     have x1 := LL.out; have x2 := JI.out; have x3 := NI.out; have TJ := TI.out
     rw [← drop_step HMM.out, take_skip hsk] at TJ
     exact ⟨i + 1, n, M, KK, by have := JI.out; omega, by go_num, rfl, Nat.le_succ_of_le NI.out, HM.out, (KF.out.trans K6.out (fun _ _ h => h) (fun _ _ f => f.elim) : Kept (fun k => k = b) w w6), ⟨p0, hb, HM.out.may⟩, hs, TJ.1, TJ.2⟩
   | true =>
    have hnum := (chk_num BC.out).2.2.2.1
    have E := Lib.hid (expired_all m now hnum.1 hnum.2 h1 h2)
    obtain ⟨be, hbe⟩ : ∃ c, lateB m.st now = c := ⟨_, rfl⟩
    have BE := Lib.hid hbe
    rw [hbe] at E
    clear hbe hnum
    have s0 := sm 0 _ rfl; have s1 := sm 1 _ rfl; have s2 := sm 2 _ rfl; have s3 := sm 3 _ rfl; have s4 := sm 4 _ rfl; have s5 := sm 5 _ rfl; have s6 := sm 6 _ rfl; have s7 := sm 7 _ rfl
    go_wp2_with fail
    refine (E.out _).mono ?_
    rintro e w7 ⟨rfl, k7⟩
    replace p0 := k7.cell p0 (fun f => f)
    replace k0 := k7.cell k0 (fun f => f)
    replace k1 := k7.cell k1 (fun f => f)
    replace sm := sm.keptF k7
    replace so := so.keptF k7
    replace hb := hb.kept k7 (fun f => f)
    replace hs := hs.kept k7 (fun f => f)
    have K7 := Lib.hid (keptFF K6.out k7)
    clear k7
    clear s0 s1 s2 s3 s4 s5 s6 s7
    cases be with
    | true =>
     go_wp2
     go_roundg (L.length - i - 1)
     case measure => have := JI.out; omega
     case rel =>
      have hsk : skipB now M KK m = true := by unfold skipB; rw [BE.out]; simp
      have x1 := LL.out; have x2 := JI.out; have x3 := NI.out; have TJ := TI.out
      rw [← drop_step HMM.out, take_skip hsk] at TJ
      exact ⟨i + 1, n, M, KK, by have := JI.out; omega, by go_num, rfl, Nat.le_succ_of_le NI.out, HM.out, (KF.out.trans K7.out (fun _ _ h => h) (fun _ _ f => f.elim) : Kept (fun k => k = b) w w7), ⟨p0, hb, HM.out.may⟩, hs, TJ.1, TJ.2⟩
    | false =>
     obtain ⟨bk, hbk⟩ : ∃ c, decide (keyOf m ∈ KK) = c := ⟨_, rfl⟩
     have SE := seen_at hs m.tr m.id
     have BK := Lib.hid hbk
     unfold keyOf at hbk
     rw [hbk] at SE
     clear hbk
     cases bk with
     | true =>
      have SE2 : (Instr.lookup 72 (.map (some sb)) (.agg #[.int .i64 m.tr, .int .i64 m.id]) false).run Try.prog w7 = .ok (.int .i64 1) w7 := SE
      clear SE
      go_wp2
      clear SE2
      go_roundg (L.length - i - 1)
      case measure => have := JI.out; omega
      case rel =>
       have hsk : skipB now M KK m = true := by unfold skipB; rw [BK.out]; simp
       have x1 := LL.out; have x2 := JI.out; have x3 := NI.out; have TJ := TI.out
       rw [← drop_step HMM.out, take_skip hsk] at TJ
       exact ⟨i + 1, n, M, KK, by have := JI.out; omega, by go_num, rfl, Nat.le_succ_of_le NI.out, HM.out, (KF.out.trans K7.out (fun _ _ h => h) (fun _ _ f => f.elim) : Kept (fun k => k = b) w w7), ⟨p0, hb, HM.out.may⟩, hs, TJ.1, TJ.2⟩
     | false =>
      have SE2 : (Instr.lookup 72 (.map (some sb)) (.agg #[.int .i64 m.tr, .int .i64 m.id]) false).run Try.prog w7 = .ok (.int .i64 0) w7 := SE
      clear SE
      cases f with
      | false =>
       go_wp2
       clear SE2
       have hno : lookM (keyOf m) M = none := by cases hq : lookM (keyOf m) M with | none => rfl | some z => (have := LF.out; unfold keyOf at hq; rw [hq] at this; cases this)
       have HNO := Lib.hid hno
       clear hno
       have np : ¬ p = b := fun e => by have h := hb.not_cell (j := 0); rw [← e, p0] at h; cases h
       have nnk : ¬ nk = b := fun e => by have h := hb.not_cell (j := 0); rw [← e, k0] at h; cases h
       have nns : ¬ ns = b := fun e => by have h := hb.not_cell (j := 0); rw [← e, sm 0 _ rfl] at h; cases h
       have np2 : ¬ p = sb := fun e => by have h := hs.not_cell (j := 0); rw [← e, p0] at h; cases h
       have nnk2 : ¬ nk = sb := fun e => by have h := hs.not_cell (j := 0); rw [← e, k0] at h; cases h
       have nns2 : ¬ ns = sb := fun e => by have h := hs.not_cell (j := 0); rw [← e, sm 0 _ rfl] at h; cases h
       obtain ⟨A1, hA1⟩ : ∃ A, setBlock w7.drew b (.map (entsL 0 (entL (keyOf m) spanZ (kvM M))).toArray (entL (keyOf m) spanZ (kvM M)).length) = A := ⟨_, rfl⟩
       obtain ⟨A2, hA2⟩ : ∃ A, setBlock A1 b (.map (entsL 0 (putL (keyOf m) (aggS m) (kvM M))).toArray (putL (keyOf m) (aggS m) (kvM M)).length) = A := ⟨_, rfl⟩
       obtain ⟨A3, hA3⟩ : ∃ A, setBlock A2 sb (.map (entsL 0 (putL (keyOf m) (.int .i64 1) (kvS KK))).toArray (putL (keyOf m) (.int .i64 1) (kvS KK)).length) = A := ⟨_, rfl⟩
       have BL := hb.lt
       have hb' : MapIs w7.drew b (kvM M) := hb
       have b1 : MapIs A1 b (entL (keyOf m) spanZ (kvM M)) := by rw [← hA1]; exact MapIs.set BL
       have b2 : MapIs A2 b (putL (keyOf m) (aggS m) (kvM M)) := by rw [← hA2]; exact MapIs.set b1.lt
       have KE1 : Kept (fun k => k = b) w7.drew A1 := by rw [← hA1]; exact kept_setBlock (S := fun k => k = _) (Kept.refl _ _) (fun _ => rfl) _
       have KE2 : Kept (fun k => k = b) A1 A2 := by rw [← hA2]; exact kept_setBlock (S := fun k => k = _) (Kept.refl _ _) (fun _ => rfl) _
       have KE3 : Kept (fun k => k = sb) A2 A3 := by rw [← hA3]; exact kept_setBlock (S := fun k => k = _) (Kept.refl _ _) (fun _ => rfl) _
       have c0 : MapIs w7.drew sb (kvS KK) := hs
       have c2 : MapIs A2 sb (kvS KK) := (c0.kept KE1 NBS.out).kept KE2 NBS.out
       have c3 : MapIs A3 sb (putL (keyOf m) (.int .i64 1) (kvS KK)) := by rw [← hA3]; exact MapIs.set c2.lt
       have b3 : MapIs A3 b (putL (keyOf m) (aggS m) (kvM M)) := b2.kept KE3 (fun e => NBS.out e.symm)
       have EQ1 := entry68 hb' (keyOf m)
       have EQ2 := store68 b1 (aggS m)
       have EQ3 := put72 c2 (keyOf m) (.int .i64 1)
       rw [hA1] at EQ1; rw [hA2] at EQ2; rw [hA3] at EQ3
       obtain ⟨ov, hov⟩ : ∃ ov, oldL (keyOf m) spanZ (kvM M) = ov := ⟨_, rfl⟩
       obtain ⟨st, hst⟩ : ∃ st, stampL (keyOf m) (kvM M) = st := ⟨_, rfl⟩
       rw [hov, hst] at EQ1; rw [hst] at EQ2
       unfold keyV keyOf at EQ1 EQ3; unfold aggS at EQ2
       rw [put_kvM] at b3
       have B3 := Lib.hid b3; have C3 := Lib.hid c3
       clear hA1 hA2 hA3 b1 b2 b3 c0 c2 c3 hb hb' hs hov hst BL
       refine wp_region_held_drew (S := (fun w' => w'.cell? ⟨p, 0, none⟩ = some (.map (some b)) ∧ w'.cell? ⟨nk, 0, none⟩ = some (.int .i64 m.tr) ∧ w'.cell? ⟨nk, 1, none⟩ = some (.int .i64 m.id) ∧ SpanAt w' ns m)) (by kernel_rfl) ?_ (fun hHeld => ?_)
       ·exact ⟨p0, k0, k1, sm⟩
       refine tW 0 opAt0 hHeld ?_
       (try simp only [Act.put]); try simp only [z2, List.set]
       refine tW 1 opAt1 hHeld ?_
       (try simp only [Act.put]); try simp only [z2, List.set]
       refine tW 2 opAt2 hHeld ?_
       (try simp only [Act.put]); try simp only [z2, List.set]
       refine tW 3 opAt3 hHeld ?_
       (try simp only [Act.put]); try simp only [z2, List.set]
       refine tW 4 opAt4 hHeld ?_
       (try simp only [Act.put]); try simp only [z2, List.set]
       refine tW 5 opAt5 hHeld ?_
       (try simp only [Act.put]); try simp only [z2, List.set]
       refine tW 6 opAt6 hHeld ?_
       (try simp only [Act.put]); try simp only [z2, List.set]
       refine tH (v := ?_) 7 opAt7 ?_ hHeld ?_
       case refine_2 => (intro w hSw; (try dsimp only at hSw); have s0 := hSw.2.2.2 0 _ rfl; have s1 := hSw.2.2.2 1 _ rfl; have s2 := hSw.2.2.2 2 _ rfl; have s3 := hSw.2.2.2 3 _ rfl; have s4 := hSw.2.2.2 4 _ rfl; have s5 := hSw.2.2.2 5 _ rfl; have s6 := hSw.2.2.2 6 _ rfl; have s7 := hSw.2.2.2 7 _ rfl; clear hSw; go_simp; all_goals (with_reducible rfl))
       (try simp only [Act.put]); try simp only [z2, List.set]
       refine wpAnyH_ready (rs := [8]) (by kernel_rfl) (by simp) ?_
       refine AllReadyH.cons opAt8 (fun K hK => ?_) AllReadyH.nil
       go_simp
       skip
       refine hK.out _ _ ?_ (fun hHeld => ?_)
       ·exact ⟨KE1.cell hHeld.1 np, KE1.cell hHeld.2.1 nnk, KE1.cell hHeld.2.2.1 nnk, hHeld.2.2.2.kept KE1 nns⟩
       clear hK K
       (try simp only [Act.put]); try simp only [z2, List.set]
       refine tW 9 opAt9 hHeld ?_
       (try simp only [Act.put]); try simp only [z2, List.set]
       refine wpAnyH_ready (rs := [10]) (by kernel_rfl) (by simp) ?_
       refine AllReadyH.cons opAt10 (fun K hK => ?_) AllReadyH.nil
       go_simp
       skip
       refine hK.out _ _ ?_ (fun hHeld => ?_)
       ·exact ⟨KE2.cell hHeld.1 np, KE2.cell hHeld.2.1 nnk, KE2.cell hHeld.2.2.1 nnk, hHeld.2.2.2.kept KE2 nns⟩
       clear hK K
       (try simp only [Act.put]); try simp only [z2, List.set]
       refine wpAnyH_ready (rs := [11]) (by kernel_rfl) (by simp) ?_
       refine AllReadyH.cons opAt11 (fun K hK => ?_) AllReadyH.nil
       go_simp
       skip
       refine hK.out _ _ ?_ (fun hHeld => ?_)
       ·exact ⟨KE3.cell hHeld.1 np2, KE3.cell hHeld.2.1 nnk2, KE3.cell hHeld.2.2.1 nnk2, hHeld.2.2.2.kept KE3 nns2⟩
       clear hK K
       (try simp only [Act.put]); try simp only [z2, List.set]
       refine wpAnyH_done (by kernel_rfl) ?_ _
       have kf : Kept (fun k => k = b) w A3 := (KF.out.trans (((K7.out.drew).mono (fun _ _ f => f.elim) : Kept (fun k => k = b) wr _).trans (KE1.trans KE2 (fun _ _ h => h) (fun _ _ h => h)) (fun _ _ h => h) (fun _ _ h => h)) (fun _ _ h => h) (fun _ _ h => h)).trans KE3 (fun _ _ h => h) (fun i hi h => absurd hi (by rw [h]; exact Nat.not_lt.2 SB.out))
       have pf : A3.cell? ⟨p, 0, none⟩ = some (.map (some b)) := KE3.cell (KE2.cell (KE1.cell p0 np) np) np2
       have KG := Lib.hid kf
       have PF := Lib.hid pf
       clear kf pf EQ1 EQ2 EQ3
       have i3 : (0 : Int) ≤ (n : Int) := by omega
       have i4 : (n : Int) ≤ 9223372036854775806 := by have := NI.out; have := JI.out; have := LL.out; omega
       go_wp2
       go_roundg (L.length - i - 1)
       case measure => have := JI.out; omega
       case rel =>
        have hsk : skipB now M KK m = false := by unfold skipB; rw [BC.out, BE.out, BK.out]; unfold hasB; rw [HNO.out]; rfl
        have x1 := LL.out; have x2 := JI.out; have x3 := NI.out; have TJ := TI.out
        rw [← drop_step HMM.out, take_put hsk] at TJ
        have hk : keyOf m ∉ KK := fun e => by rw [decide_eq_true e] at BK; cases BK.out
        have C4 := C3.out
        rw [put_kvS _ _ hk] at C4
        exact ⟨i + 1, n + 1, putM m M, KK ++ [keyOf m], by have := JI.out; omega, by go_num, by go_num, Nat.succ_le_succ NI.out, HM.out.put (skip_chk hsk), KG.out, ⟨PF.out, B3.out, (HM.out.put (skip_chk hsk)).may⟩, C4, TJ.1, by have := TJ.2; dsimp only at this ⊢; omega⟩
      | true =>
       have hlo : lookM (keyOf m) M = some o := by cases hq : lookM (keyOf m) M with | none => (have := LF.out; unfold keyOf at hq; rw [hq] at this; cases this) | some z => (have := LO.out; unfold keyOf at hq; rw [hq] at this; rw [← this]; rfl)
       have onum := (chk_num (HM.out.may o (look_mem hlo).1)).2.2.2.1
       have E2 := Lib.hid (expired_all o now onum.1 onum.2 h1 h2)
       obtain ⟨bo, hbo⟩ : ∃ c, lateB o.st now = c := ⟨_, rfl⟩
       have BO := Lib.hid hbo; have HLO := Lib.hid hlo
       rw [hbo] at E2
       clear hbo onum hlo
       have o0 := so 0 _ rfl; have o1 := so 1 _ rfl; have o2 := so 2 _ rfl; have o3 := so 3 _ rfl; have o4 := so 4 _ rfl; have o5 := so 5 _ rfl; have o6 := so 6 _ rfl; have o7 := so 7 _ rfl
       go_wp2_with fail
       refine (E2.out _).mono ?_
       rintro e w8 ⟨rfl, k8⟩
       replace p0 := k8.cell p0 (fun f => f)
       replace k0 := k8.cell k0 (fun f => f)
       replace k1 := k8.cell k1 (fun f => f)
       replace sm := sm.keptF k8
       replace so := so.keptF k8
       replace hb := hb.kept k8 (fun f => f)
       replace hs := hs.kept k8 (fun f => f)
       have K8 := Lib.hid (keptFF K7.out k8)
       clear k8
       clear SE2
       clear o0 o1 o2 o3 o4 o5 o6 o7
       cases bo with
       | false =>
        go_wp2
        go_roundg (L.length - i - 1)
        case measure => have := JI.out; omega
        case rel =>
         have hsk : skipB now M KK m = true := by unfold skipB hasB; rw [HLO.out]; simp [BO.out]
         have x1 := LL.out; have x2 := JI.out; have x3 := NI.out; have TJ := TI.out
         rw [← drop_step HMM.out, take_skip hsk] at TJ
         exact ⟨i + 1, n, M, KK, by have := JI.out; omega, by go_num, rfl, Nat.le_succ_of_le NI.out, HM.out, (KF.out.trans K8.out (fun _ _ h => h) (fun _ _ f => f.elim) : Kept (fun k => k = b) w w8), ⟨p0, hb, HM.out.may⟩, hs, TJ.1, TJ.2⟩
       | true =>
        go_wp2
        have np : ¬ p = b := fun e => by have h := hb.not_cell (j := 0); rw [← e, p0] at h; cases h
        have nnk : ¬ nk = b := fun e => by have h := hb.not_cell (j := 0); rw [← e, k0] at h; cases h
        have nns : ¬ ns = b := fun e => by have h := hb.not_cell (j := 0); rw [← e, sm 0 _ rfl] at h; cases h
        have np2 : ¬ p = sb := fun e => by have h := hs.not_cell (j := 0); rw [← e, p0] at h; cases h
        have nnk2 : ¬ nk = sb := fun e => by have h := hs.not_cell (j := 0); rw [← e, k0] at h; cases h
        have nns2 : ¬ ns = sb := fun e => by have h := hs.not_cell (j := 0); rw [← e, sm 0 _ rfl] at h; cases h
        obtain ⟨A1, hA1⟩ : ∃ A, setBlock w8.drew b (.map (entsL 0 (entL (keyOf m) spanZ (kvM M))).toArray (entL (keyOf m) spanZ (kvM M)).length) = A := ⟨_, rfl⟩
        obtain ⟨A2, hA2⟩ : ∃ A, setBlock A1 b (.map (entsL 0 (putL (keyOf m) (aggS m) (kvM M))).toArray (putL (keyOf m) (aggS m) (kvM M)).length) = A := ⟨_, rfl⟩
        obtain ⟨A3, hA3⟩ : ∃ A, setBlock A2 sb (.map (entsL 0 (putL (keyOf m) (.int .i64 1) (kvS KK))).toArray (putL (keyOf m) (.int .i64 1) (kvS KK)).length) = A := ⟨_, rfl⟩
        have BL := hb.lt
        have hb' : MapIs w8.drew b (kvM M) := hb
        have b1 : MapIs A1 b (entL (keyOf m) spanZ (kvM M)) := by rw [← hA1]; exact MapIs.set BL
        have b2 : MapIs A2 b (putL (keyOf m) (aggS m) (kvM M)) := by rw [← hA2]; exact MapIs.set b1.lt
        have KE1 : Kept (fun k => k = b) w8.drew A1 := by rw [← hA1]; exact kept_setBlock (S := fun k => k = _) (Kept.refl _ _) (fun _ => rfl) _
        have KE2 : Kept (fun k => k = b) A1 A2 := by rw [← hA2]; exact kept_setBlock (S := fun k => k = _) (Kept.refl _ _) (fun _ => rfl) _
        have KE3 : Kept (fun k => k = sb) A2 A3 := by rw [← hA3]; exact kept_setBlock (S := fun k => k = _) (Kept.refl _ _) (fun _ => rfl) _
        have c0 : MapIs w8.drew sb (kvS KK) := hs
        have c2 : MapIs A2 sb (kvS KK) := (c0.kept KE1 NBS.out).kept KE2 NBS.out
        have c3 : MapIs A3 sb (putL (keyOf m) (.int .i64 1) (kvS KK)) := by rw [← hA3]; exact MapIs.set c2.lt
        have b3 : MapIs A3 b (putL (keyOf m) (aggS m) (kvM M)) := b2.kept KE3 (fun e => NBS.out e.symm)
        have EQ1 := entry68 hb' (keyOf m)
        have EQ2 := store68 b1 (aggS m)
        have EQ3 := put72 c2 (keyOf m) (.int .i64 1)
        rw [hA1] at EQ1; rw [hA2] at EQ2; rw [hA3] at EQ3
        obtain ⟨ov, hov⟩ : ∃ ov, oldL (keyOf m) spanZ (kvM M) = ov := ⟨_, rfl⟩
        obtain ⟨st, hst⟩ : ∃ st, stampL (keyOf m) (kvM M) = st := ⟨_, rfl⟩
        rw [hov, hst] at EQ1; rw [hst] at EQ2
        unfold keyV keyOf at EQ1 EQ3; unfold aggS at EQ2
        rw [put_kvM] at b3
        have B3 := Lib.hid b3; have C3 := Lib.hid c3
        clear hA1 hA2 hA3 b1 b2 b3 c0 c2 c3 hb hb' hs hov hst BL
        refine wp_region_held_drew (S := (fun w' => w'.cell? ⟨p, 0, none⟩ = some (.map (some b)) ∧ w'.cell? ⟨nk, 0, none⟩ = some (.int .i64 m.tr) ∧ w'.cell? ⟨nk, 1, none⟩ = some (.int .i64 m.id) ∧ SpanAt w' ns m)) (by kernel_rfl) ?_ (fun hHeld => ?_)
        ·exact ⟨p0, k0, k1, sm⟩
        refine tW 0 opAt0 hHeld ?_
        (try simp only [Act.put]); try simp only [z2, List.set]
        refine tW 1 opAt1 hHeld ?_
        (try simp only [Act.put]); try simp only [z2, List.set]
        refine tW 2 opAt2 hHeld ?_
        (try simp only [Act.put]); try simp only [z2, List.set]
        refine tW 3 opAt3 hHeld ?_
        (try simp only [Act.put]); try simp only [z2, List.set]
        refine tW 4 opAt4 hHeld ?_
        (try simp only [Act.put]); try simp only [z2, List.set]
        refine tW 5 opAt5 hHeld ?_
        (try simp only [Act.put]); try simp only [z2, List.set]
        refine tW 6 opAt6 hHeld ?_
        (try simp only [Act.put]); try simp only [z2, List.set]
        refine tH (v := ?_) 7 opAt7 ?_ hHeld ?_
        case refine_2 => (intro w hSw; (try dsimp only at hSw); have s0 := hSw.2.2.2 0 _ rfl; have s1 := hSw.2.2.2 1 _ rfl; have s2 := hSw.2.2.2 2 _ rfl; have s3 := hSw.2.2.2 3 _ rfl; have s4 := hSw.2.2.2 4 _ rfl; have s5 := hSw.2.2.2 5 _ rfl; have s6 := hSw.2.2.2 6 _ rfl; have s7 := hSw.2.2.2 7 _ rfl; clear hSw; go_simp; all_goals (with_reducible rfl))
        (try simp only [Act.put]); try simp only [z2, List.set]
        refine wpAnyH_ready (rs := [8]) (by kernel_rfl) (by simp) ?_
        refine AllReadyH.cons opAt8 (fun K hK => ?_) AllReadyH.nil
        go_simp
        skip
        refine hK.out _ _ ?_ (fun hHeld => ?_)
        ·exact ⟨KE1.cell hHeld.1 np, KE1.cell hHeld.2.1 nnk, KE1.cell hHeld.2.2.1 nnk, hHeld.2.2.2.kept KE1 nns⟩
        clear hK K
        (try simp only [Act.put]); try simp only [z2, List.set]
        refine tW 9 opAt9 hHeld ?_
        (try simp only [Act.put]); try simp only [z2, List.set]
        refine wpAnyH_ready (rs := [10]) (by kernel_rfl) (by simp) ?_
        refine AllReadyH.cons opAt10 (fun K hK => ?_) AllReadyH.nil
        go_simp
        skip
        refine hK.out _ _ ?_ (fun hHeld => ?_)
        ·exact ⟨KE2.cell hHeld.1 np, KE2.cell hHeld.2.1 nnk, KE2.cell hHeld.2.2.1 nnk, hHeld.2.2.2.kept KE2 nns⟩
        clear hK K
        (try simp only [Act.put]); try simp only [z2, List.set]
        refine wpAnyH_ready (rs := [11]) (by kernel_rfl) (by simp) ?_
        refine AllReadyH.cons opAt11 (fun K hK => ?_) AllReadyH.nil
        go_simp
        skip
        refine hK.out _ _ ?_ (fun hHeld => ?_)
        ·exact ⟨KE3.cell hHeld.1 np2, KE3.cell hHeld.2.1 nnk2, KE3.cell hHeld.2.2.1 nnk2, hHeld.2.2.2.kept KE3 nns2⟩
        clear hK K
        (try simp only [Act.put]); try simp only [z2, List.set]
        refine wpAnyH_done (by kernel_rfl) ?_ _
        have kf : Kept (fun k => k = b) w A3 := (KF.out.trans (((K8.out.drew).mono (fun _ _ f => f.elim) : Kept (fun k => k = b) wr _).trans (KE1.trans KE2 (fun _ _ h => h) (fun _ _ h => h)) (fun _ _ h => h) (fun _ _ h => h)) (fun _ _ h => h) (fun _ _ h => h)).trans KE3 (fun _ _ h => h) (fun i hi h => absurd hi (by rw [h]; exact Nat.not_lt.2 SB.out))
        have pf : A3.cell? ⟨p, 0, none⟩ = some (.map (some b)) := KE3.cell (KE2.cell (KE1.cell p0 np) np) np2
        have KG := Lib.hid kf
        have PF := Lib.hid pf
        clear kf pf EQ1 EQ2 EQ3
        have i3 : (0 : Int) ≤ (n : Int) := by omega
        have i4 : (n : Int) ≤ 9223372036854775806 := by have := NI.out; have := JI.out; have := LL.out; omega
        go_wp2
        go_roundg (L.length - i - 1)
        case measure => have := JI.out; omega
        case rel =>
         have hsk : skipB now M KK m = false := by unfold skipB; rw [BC.out, BE.out, BK.out]; unfold hasB; rw [HLO.out]; simp [BO.out]
         have x1 := LL.out; have x2 := JI.out; have x3 := NI.out; have TJ := TI.out
         rw [← drop_step HMM.out, take_put hsk] at TJ
         have hk : keyOf m ∉ KK := fun e => by rw [decide_eq_true e] at BK; cases BK.out
         have C4 := C3.out
         rw [put_kvS _ _ hk] at C4
         exact ⟨i + 1, n + 1, putM m M, KK ++ [keyOf m], by have := JI.out; omega, by go_num, by go_num, Nat.succ_le_succ NI.out, HM.out.put (skip_chk hsk), KG.out, ⟨PF.out, B3.out, (HM.out.put (skip_chk hsk)).may⟩, C4, TJ.1, by have := TJ.2; dsimp only at this ⊢; omega⟩
  ·have i1 : ¬ (i : Int) < (L.length : Int) := by omega
   have ei : L.drop i = [] := List.drop_eq_nil_of_le (by omega)
   have TJ := TI.out
   rw [ei] at TJ
   have e1 : M = TF.1 := TJ.1
   have e2 : n = TF.2 := TJ.2
   have HMM := Lib.hid (show ModelAt wr p b M from ⟨p0, hb, HM.out.may⟩)
   clear p0 hb hs ei TJ
   go_wp2
   go_ret
   exact ⟨by rw [← e2]; rfl, KF.out, e1 ▸ HMM.out⟩
end Go.Proofs.Ytibakmchgppndaa
/- slices.SortFunc at spans, by trace and ID: by the library's proved contract. -/
namespace Go.Proofs.Ytibakmchgppndaa
open Go.RowKit Go.Shelf Go.Lib Go.Sort

def cmpI (x y : Int) : Int := if x < y then -1 else if y < x then 1 else 0
def orI (a b : Int) : Int := if a = 0 then b else a
def cmpS (x y : Spn) : Int := orI (cmpI x.tr y.tr) (cmpI x.id y.id)
theorem nan_int (x : Int) (w : World) : Calls Try.prog 49 #[.int .i64 x] w fun e w' => e = .returned (.bool false) ∧ w = w' := by
 go_enter Try.func49, Try.ntmps49
 go_wp2
 go_ret
 exact ⟨by simp, rfl⟩
theorem cmp_int (x y : Int) (w : World) : Calls Try.prog 33 #[.int .i64 x, .int .i64 y] w fun e w' => e = .returned (.int .i64 (cmpI x y)) ∧ w = w' := by
 go_enter Try.func33, Try.ntmps33
 go_wp2_with (go_at_call 49; refine (nan_int _ _).mono ?_; rintro e w' ⟨rfl, rfl⟩)
 all_goals go_ret
 all_goals (refine ⟨?_, rfl⟩; unfold cmpI; (repeat' split) <;> first | rfl | (exfalso; omega))
set_option maxHeartbeats 2000000 in
set_option maxRecDepth 100000 in
theorem or_two (g : Nat) (a b : Int) (c : Nat) (w : World) (h0 : w.cell? ⟨g, 0, none⟩ = some (.int .i64 a)) (h1 : w.cell? ⟨g, 1, none⟩ = some (.int .i64 b)) :
  Calls Try.prog 32 #[.slice (some ⟨g, 0, none⟩) 2 c] w fun e w' => e = .returned (.int .i64 (orI a b)) ∧ w = w' := by
 go_enter Try.func32, Try.ntmps32
 go_wp2
 go_loopg [8] 2 (fun gh t wr => wr = w ∧ ((gh = 2 ∧ t = .int .i64 0) ∨ (gh = 1 ∧ t = .int .i64 1 ∧ a = 0) ∨ (gh = 0 ∧ t = .int .i64 2 ∧ a = 0 ∧ b = 0)))
 case atStart => exact ⟨rfl, .inl ⟨rfl, rfl⟩⟩
 case round =>
  obtain ⟨rfl, ⟨rfl, rfl⟩ | ⟨rfl, rfl, rfl⟩ | ⟨rfl, rfl, rfl, rfl⟩⟩ := hrel
  ·by_cases ha : a = 0
   ·subst ha
    go_wp2
    go_roundg 1
    case measure => omega
    case rel => exact ⟨rfl, .inr (.inl ⟨rfl, rfl, trivial⟩)⟩
   ·go_wp2
    go_ret
    exact ⟨by unfold orI; rw [if_neg ha]; rfl, rfl⟩
  ·by_cases hb : b = 0
   ·subst hb
    go_wp2
    go_roundg 0
    case measure => omega
    case rel => exact ⟨rfl, .inr (.inr ⟨rfl, rfl, trivial, trivial⟩)⟩
   ·go_wp2
    go_ret
    exact ⟨by unfold orI; rw [if_pos rfl]; rfl, rfl⟩
  ·go_wp2
   go_ret
   exact ⟨by unfold orI; rfl, rfl⟩
set_option maxHeartbeats 4000000 in
set_option maxRecDepth 100000 in
theorem closure_all (x y : Spn) (w : World) : Calls Try.prog 31 #[aggS x, aggS y] w fun e w' => e = .returned (.int .i64 (cmpS x y)) ∧ ∃ q os', w' = grow (w.drewN q) os' := by
 unfold aggS
 have C0 := Lib.hid (cmp_int x.tr y.tr)
 have C1 := Lib.hid (cmp_int x.id y.id)
 unfold cmpS
 obtain ⟨c0, h0⟩ : ∃ c, cmpI x.tr y.tr = c := ⟨_, rfl⟩
 obtain ⟨c1, h1⟩ : ∃ c, cmpI x.id y.id = c := ⟨_, rfl⟩
 rw [h0] at C0 ⊢
 rw [h1] at C1 ⊢
 clear h0 h1
 go_enter Try.func31, Try.ntmps31
 go_wp2
 obtain ⟨W, hW⟩ : ∃ W, (w.alloc (.cells #[.int .i64 x.tr, .int .i64 x.id, .int .i64 x.pa, .string x.se, .string x.ho, .int .i64 x.st, .int .i64 x.du, .string x.no] 37)).alloc (.cells #[.int .i64 y.tr, .int .i64 y.id, .int .i64 y.pa, .string y.se, .string y.ho, .int .i64 y.st, .int .i64 y.du, .string y.no] 37) = W := ⟨_, rfl⟩
 obtain ⟨nx, hnx⟩ : ∃ n, w.heap.size = n := ⟨_, rfl⟩
 obtain ⟨ny, hny⟩ : ∃ n, nx + 1 = n := ⟨_, rfl⟩
 have kA : Kept (fun _ => False) w (w.alloc (.cells #[.int .i64 x.tr, .int .i64 x.id, .int .i64 x.pa, .string x.se, .string x.ho, .int .i64 x.st, .int .i64 x.du, .string x.no] 37)) := (Kept.refl _ w).alloc _
 have kB : Kept (fun _ => False) (w.alloc (.cells #[.int .i64 x.tr, .int .i64 x.id, .int .i64 x.pa, .string x.se, .string x.ho, .int .i64 x.st, .int .i64 x.du, .string x.no] 37)) W := by rw [← hW]; exact (Kept.refl _ _).alloc _
 have hx : SpanAt W nx x := by rw [← hnx]; exact SpanAt.new.keptF kB
 have hy : SpanAt W ny y := by
  have h := SpanAt.new (w := w.alloc (.cells #[.int .i64 x.tr, .int .i64 x.id, .int .i64 x.pa, .string x.se, .string x.ho, .int .i64 x.st, .int .i64 x.du, .string x.no] 37)) (m := y)
  rw [hW] at h
  have e : (w.alloc (.cells #[.int .i64 x.tr, .int .i64 x.id, .int .i64 x.pa, .string x.se, .string x.ho, .int .i64 x.st, .int .i64 x.du, .string x.no] 37)).heap.size = ny := by rw [← hny, ← hnx]; simp
  rwa [e] at h
 have x0 := hx 0 _ rfl
 have x1 := hx 1 _ rfl
 have y0 := hy 0 _ rfl
 have y1 := hy 1 _ rfl
 have GW := Lib.hid (show W = grow (w.drewN 0) #[.cells #[.int .i64 x.tr, .int .i64 x.id, .int .i64 x.pa, .string x.se, .string x.ho, .int .i64 x.st, .int .i64 x.du, .string x.no] 37, .cells #[.int .i64 y.tr, .int .i64 y.id, .int .i64 y.pa, .string y.se, .string y.ho, .int .i64 y.st, .int .i64 y.du, .string y.no] 37] from by rw [← hW, alloc_eq_grow, alloc_eq_grow, grow_grow]; rfl)
 rw [hW, hnx, hny]
 clear hW hnx hny kA kB hx hy
 refine wp_region_held_drew (S := (fun w' => w'.cell? ⟨nx, 0, none⟩ = some (.int .i64 x.tr) ∧ w'.cell? ⟨nx, 1, none⟩ = some (.int .i64 x.id) ∧ w'.cell? ⟨ny, 0, none⟩ = some (.int .i64 y.tr) ∧ w'.cell? ⟨ny, 1, none⟩ = some (.int .i64 y.id))) (by kernel_rfl) ?_ (fun hHeld => ?_)
 ·exact ⟨x0, x1, y0, y1⟩
 refine tW 0 opAt0 hHeld ?_
 (try simp only [Act.put]); try simp only [z2, List.set]
 refine tW 1 opAt1 hHeld ?_
 (try simp only [Act.put]); try simp only [z2, List.set]
 refine tW 2 opAt2 hHeld ?_
 (try simp only [Act.put]); try simp only [z2, List.set]
 refine tW 3 opAt3 hHeld ?_
 (try simp only [Act.put]); try simp only [z2, List.set]
 refine tW 5 opAt5 hHeld ?_
 (try simp only [Act.put]); try simp only [z2, List.set]
 refine tW 6 opAt6 hHeld ?_
 (try simp only [Act.put]); try simp only [z2, List.set]
 refine tW 7 opAt7 hHeld ?_
 (try simp only [Act.put]); try simp only [z2, List.set]
 refine tW 8 opAt8 hHeld ?_
 (try simp only [Act.put]); try simp only [z2, List.set]
 refine wpAnyH_ready (rs := [4]) (by kernel_rfl) (by simp) ?_
 refine AllReadyH.cons opAt4 (fun K hK => ?_) AllReadyH.nil
 go_simp
 go_at_call 33; refine (C0.out _).mono ?_; rintro e w5 ⟨rfl, rfl⟩; dsimp only
 refine hK.out _ _ ?_ (fun hHeld => ?_)
 ·exact hHeld
 clear hK K
 (try simp only [Act.put]); try simp only [z2, List.set]
 refine wpAnyH_ready (rs := [9]) (by kernel_rfl) (by simp) ?_
 refine AllReadyH.cons opAt9 (fun K hK => ?_) AllReadyH.nil
 go_simp
 go_at_call 33; refine (C1.out _).mono ?_; rintro e w6 ⟨rfl, rfl⟩; dsimp only
 refine hK.out _ _ ?_ (fun hHeld => ?_)
 ·exact hHeld
 clear hK K
 (try simp only [Act.put]); try simp only [z2, List.set]
 refine wpAnyH_ready (rs := [10]) (by kernel_rfl) (by simp) ?_
 refine AllReadyH.cons opAt10 (fun K hK => ?_) AllReadyH.nil
 go_simp
 skip
 refine hK.out _ _ ?_ (fun hHeld => ?_)
 ·exact ⟨(((Kept.refl (fun _ => False) W.drew).alloc (.cells #[.int .i64 c0, .int .i64 c1] 3))).cell hHeld.1 (fun f => f), (((Kept.refl (fun _ => False) W.drew).alloc (.cells #[.int .i64 c0, .int .i64 c1] 3))).cell hHeld.2.1 (fun f => f), (((Kept.refl (fun _ => False) W.drew).alloc (.cells #[.int .i64 c0, .int .i64 c1] 3))).cell hHeld.2.2.1 (fun f => f), (((Kept.refl (fun _ => False) W.drew).alloc (.cells #[.int .i64 c0, .int .i64 c1] 3))).cell hHeld.2.2.2 (fun f => f)⟩
 clear hK K
 (try simp only [Act.put]); try simp only [z2, List.set]
 refine wpAnyH_ready (rs := [11]) (by kernel_rfl) (by simp) ?_
 refine AllReadyH.cons opAt11 (fun K hK => ?_) AllReadyH.nil
 go_simp
 go_at_call 32; refine (or_two _ c0 c1 _ _ (by simp) (by simp)).mono ?_; rintro e w7 ⟨rfl, rfl⟩; dsimp only
 refine hK.out _ _ ?_ (fun hHeld => ?_)
 ·exact hHeld
 clear hK K
 (try simp only [Act.put]); try simp only [z2, List.set]
 refine tW 12 opAt12 hHeld ?_
 (try simp only [Act.put]); try simp only [z2, List.set]
 refine wpAnyH_done (by kernel_rfl) ?_ _
 go_wp2
 go_ret
 have E : (W.alloc (.cells #[.int .i64 c0, .int .i64 c1] 3)).drew = grow (w.drewN 1) (#[.cells #[.int .i64 x.tr, .int .i64 x.id, .int .i64 x.pa, .string x.se, .string x.ho, .int .i64 x.st, .int .i64 x.du, .string x.no] 37, .cells #[.int .i64 y.tr, .int .i64 y.id, .int .i64 y.pa, .string y.se, .string y.ho, .int .i64 y.st, .int .i64 y.du, .string y.no] 37] ++ #[.cells #[.int .i64 c0, .int .i64 c1] 3]) := by
  rw [GW.out, alloc_eq_grow]
  exact grow_grow (w.drewN 1) _ _
 exact ⟨rfl, 1, _, E⟩
end Go.Proofs.Ytibakmchgppndaa
/- The comparisons that sort and compact spans by their IDs. -/
namespace Go.Proofs.Ytibakmchgppndaa
open Go.RowKit

set_option maxRecDepth 100000 in
theorem id_any (x : Spn) (w : World) : Calls Try.prog 73 #[.agg #[.int .i64 x.tr, .int .i64 x.id, .int .i64 x.pa, .string x.se, .string x.ho, .int .i64 x.st, .int .i64 x.du, .string x.no]] w fun e w' => e = .returned (.int .i64 x.id) ∧ Kept (fun _ => False) w w' := by
 go_enter Try.func73, Try.ntmps73
 go_wp2
 go_ret
 exact ⟨rfl, (Kept.refl _ w).alloc _⟩
set_option maxHeartbeats 4000000 in
set_option maxRecDepth 100000 in
theorem cmp_any (x y : Spn) (bk : Nat) (w : World) (h : w.cell? ⟨bk, 0, none⟩ = some (.func (.func 73) #[] #[])) :
  Calls Try.prog 86 #[.agg #[.int .i64 x.tr, .int .i64 x.id, .int .i64 x.pa, .string x.se, .string x.ho, .int .i64 x.st, .int .i64 x.du, .string x.no], .agg #[.int .i64 y.tr, .int .i64 y.id, .int .i64 y.pa, .string y.se, .string y.ho, .int .i64 y.st, .int .i64 y.du, .string y.no], .pointer (some ⟨bk, 0, none⟩)] w fun e w' => e = .returned (.int .i64 (cmpI x.id y.id)) ∧ Kept (fun _ => False) w w' := by
 go_enter Try.func86, Try.ntmps86
 go_wp2
 obtain ⟨W, hW⟩ : ∃ W, (w.alloc (.cells #[.int .i64 x.tr, .int .i64 x.id, .int .i64 x.pa, .string x.se, .string x.ho, .int .i64 x.st, .int .i64 x.du, .string x.no] 37)).alloc (.cells #[.int .i64 y.tr, .int .i64 y.id, .int .i64 y.pa, .string y.se, .string y.ho, .int .i64 y.st, .int .i64 y.du, .string y.no] 37) = W := ⟨_, rfl⟩
 obtain ⟨nx, hnx⟩ : ∃ n, w.heap.size = n := ⟨_, rfl⟩
 obtain ⟨ny, hny⟩ : ∃ n, nx + 1 = n := ⟨_, rfl⟩
 have kA : Kept (fun _ => False) w (w.alloc (.cells #[.int .i64 x.tr, .int .i64 x.id, .int .i64 x.pa, .string x.se, .string x.ho, .int .i64 x.st, .int .i64 x.du, .string x.no] 37)) := (Kept.refl _ w).alloc _
 have kB : Kept (fun _ => False) (w.alloc (.cells #[.int .i64 x.tr, .int .i64 x.id, .int .i64 x.pa, .string x.se, .string x.ho, .int .i64 x.st, .int .i64 x.du, .string x.no] 37)) W := by rw [← hW]; exact (Kept.refl _ _).alloc _
 have hx : SpanAt W nx x := by rw [← hnx]; exact SpanAt.new.keptF kB
 have hy : SpanAt W ny y := by
  have h := SpanAt.new (w := w.alloc (.cells #[.int .i64 x.tr, .int .i64 x.id, .int .i64 x.pa, .string x.se, .string x.ho, .int .i64 x.st, .int .i64 x.du, .string x.no] 37)) (m := y)
  rw [hW] at h
  have e : (w.alloc (.cells #[.int .i64 x.tr, .int .i64 x.id, .int .i64 x.pa, .string x.se, .string x.ho, .int .i64 x.st, .int .i64 x.du, .string x.no] 37)).heap.size = ny := by rw [← hny, ← hnx]; simp
  rwa [e] at h
 have hb := (keptFF kA kB).cell h (fun f => f)
 have KW := Lib.hid (keptFF kA kB)
 rw [hW, hnx, hny]
 clear hW hnx hny kA kB h
 refine wp_region_held_drew (S := (fun w' => w'.cell? ⟨bk, 0, none⟩ = some (.func (.func 73) #[] #[]) ∧ SpanAt w' nx x ∧ SpanAt w' ny y)) (by kernel_rfl) ?_ (fun hHeld => ?_)
 ·exact ⟨hb, hx, hy⟩
 refine tW 0 opAt0 hHeld ?_
 (try simp only [Act.put]); try simp only [z2, List.set]
 refine tH (v := ?_) 1 opAt1 ?_ hHeld ?_
 case refine_2 => (intro w hSw; have q0 := hSw.2.1 0 _ rfl; have q1 := hSw.2.1 1 _ rfl; have q2 := hSw.2.1 2 _ rfl; have q3 := hSw.2.1 3 _ rfl; have q4 := hSw.2.1 4 _ rfl; have q5 := hSw.2.1 5 _ rfl; have q6 := hSw.2.1 6 _ rfl; have q7 := hSw.2.1 7 _ rfl; clear hSw; go_simp; all_goals (with_reducible rfl))
 (try simp only [Act.put]); try simp only [z2, List.set]
 refine tW 3 opAt3 hHeld ?_
 (try simp only [Act.put]); try simp only [z2, List.set]
 refine tH (v := ?_) 4 opAt4 ?_ hHeld ?_
 case refine_2 => (intro w hSw; have q0 := hSw.2.2 0 _ rfl; have q1 := hSw.2.2 1 _ rfl; have q2 := hSw.2.2 2 _ rfl; have q3 := hSw.2.2 3 _ rfl; have q4 := hSw.2.2 4 _ rfl; have q5 := hSw.2.2 5 _ rfl; have q6 := hSw.2.2 6 _ rfl; have q7 := hSw.2.2 7 _ rfl; clear hSw; go_simp; all_goals (with_reducible rfl))
 (try simp only [Act.put]); try simp only [z2, List.set]
 refine wpAnyH_ready (rs := [2]) (by kernel_rfl) (by simp) ?_
 refine AllReadyH.cons opAt2 (fun K hK => ?_) AllReadyH.nil
 go_simp
 go_at_call 73; refine (id_any x _).mono ?_; rintro e w5 ⟨rfl, k5⟩; have K5 := Lib.hid k5; dsimp only
 refine hK.out _ _ ?_ (fun hHeld => ?_)
 ·exact ⟨k5.cell hHeld.1 (fun f => f), hHeld.2.1.keptF k5, hHeld.2.2.keptF k5⟩
 clear hK K
 (try simp only [Act.put]); try simp only [z2, List.set]
 refine wpAnyH_ready (rs := [5]) (by kernel_rfl) (by simp) ?_
 refine AllReadyH.cons opAt5 (fun K hK => ?_) AllReadyH.nil
 go_simp
 go_at_call 73; refine (id_any y _).mono ?_; rintro e w6 ⟨rfl, k6⟩; have K6 := Lib.hid (keptFF K5.out k6); dsimp only
 refine hK.out _ _ ?_ (fun hHeld => ?_)
 ·exact ⟨k6.cell hHeld.1 (fun f => f), hHeld.2.1.keptF k6, hHeld.2.2.keptF k6⟩
 clear hK K
 (try simp only [Act.put]); try simp only [z2, List.set]
 refine wpAnyH_ready (rs := [6]) (by kernel_rfl) (by simp) ?_
 refine AllReadyH.cons opAt6 (fun K hK => ?_) AllReadyH.nil
 go_simp
 go_at_call 33; refine (cmp_int _ _ _).mono ?_; rintro e w7 ⟨rfl, rfl⟩; dsimp only
 refine hK.out _ _ ?_ (fun hHeld => ?_)
 ·exact hHeld
 clear hK K
 (try simp only [Act.put]); try simp only [z2, List.set]
 refine tW 7 opAt7 hHeld ?_
 (try simp only [Act.put]); try simp only [z2, List.set]
 refine wpAnyH_done (by kernel_rfl) ?_ _
 go_wp2
 go_ret
 exact ⟨rfl, keptFF (KW.out.drew) K6.out⟩

set_option maxHeartbeats 4000000 in
set_option maxRecDepth 100000 in
theorem eq_any (x y : Spn) (bk : Nat) (w : World) (h : w.cell? ⟨bk, 0, none⟩ = some (.func (.func 73) #[] #[])) :
  Calls Try.prog 88 #[.agg #[.int .i64 x.tr, .int .i64 x.id, .int .i64 x.pa, .string x.se, .string x.ho, .int .i64 x.st, .int .i64 x.du, .string x.no], .agg #[.int .i64 y.tr, .int .i64 y.id, .int .i64 y.pa, .string y.se, .string y.ho, .int .i64 y.st, .int .i64 y.du, .string y.no], .pointer (some ⟨bk, 0, none⟩)] w fun e w' => e = .returned (.bool (x.id == y.id)) ∧ Kept (fun _ => False) w w' := by
 go_enter Try.func88, Try.ntmps88
 go_wp2
 obtain ⟨W, hW⟩ : ∃ W, (w.alloc (.cells #[.int .i64 x.tr, .int .i64 x.id, .int .i64 x.pa, .string x.se, .string x.ho, .int .i64 x.st, .int .i64 x.du, .string x.no] 37)).alloc (.cells #[.int .i64 y.tr, .int .i64 y.id, .int .i64 y.pa, .string y.se, .string y.ho, .int .i64 y.st, .int .i64 y.du, .string y.no] 37) = W := ⟨_, rfl⟩
 obtain ⟨nx, hnx⟩ : ∃ n, w.heap.size = n := ⟨_, rfl⟩
 obtain ⟨ny, hny⟩ : ∃ n, nx + 1 = n := ⟨_, rfl⟩
 have kA : Kept (fun _ => False) w (w.alloc (.cells #[.int .i64 x.tr, .int .i64 x.id, .int .i64 x.pa, .string x.se, .string x.ho, .int .i64 x.st, .int .i64 x.du, .string x.no] 37)) := (Kept.refl _ w).alloc _
 have kB : Kept (fun _ => False) (w.alloc (.cells #[.int .i64 x.tr, .int .i64 x.id, .int .i64 x.pa, .string x.se, .string x.ho, .int .i64 x.st, .int .i64 x.du, .string x.no] 37)) W := by rw [← hW]; exact (Kept.refl _ _).alloc _
 have hx : SpanAt W nx x := by rw [← hnx]; exact SpanAt.new.keptF kB
 have hy : SpanAt W ny y := by
  have h := SpanAt.new (w := w.alloc (.cells #[.int .i64 x.tr, .int .i64 x.id, .int .i64 x.pa, .string x.se, .string x.ho, .int .i64 x.st, .int .i64 x.du, .string x.no] 37)) (m := y)
  rw [hW] at h
  have e : (w.alloc (.cells #[.int .i64 x.tr, .int .i64 x.id, .int .i64 x.pa, .string x.se, .string x.ho, .int .i64 x.st, .int .i64 x.du, .string x.no] 37)).heap.size = ny := by rw [← hny, ← hnx]; simp
  rwa [e] at h
 have hb := (keptFF kA kB).cell h (fun f => f)
 have KW := Lib.hid (keptFF kA kB)
 rw [hW, hnx, hny]
 clear hW hnx hny kA kB h
 refine wp_region_held_drew (S := (fun w' => w'.cell? ⟨bk, 0, none⟩ = some (.func (.func 73) #[] #[]) ∧ SpanAt w' nx x ∧ SpanAt w' ny y)) (by kernel_rfl) ?_ (fun hHeld => ?_)
 ·exact ⟨hb, hx, hy⟩
 refine tW 0 opAt0 hHeld ?_
 (try simp only [Act.put]); try simp only [z2, List.set]
 refine tH (v := ?_) 1 opAt1 ?_ hHeld ?_
 case refine_2 => (intro w hSw; have q0 := hSw.2.1 0 _ rfl; have q1 := hSw.2.1 1 _ rfl; have q2 := hSw.2.1 2 _ rfl; have q3 := hSw.2.1 3 _ rfl; have q4 := hSw.2.1 4 _ rfl; have q5 := hSw.2.1 5 _ rfl; have q6 := hSw.2.1 6 _ rfl; have q7 := hSw.2.1 7 _ rfl; clear hSw; go_simp; all_goals (with_reducible rfl))
 (try simp only [Act.put]); try simp only [z2, List.set]
 refine tW 3 opAt3 hHeld ?_
 (try simp only [Act.put]); try simp only [z2, List.set]
 refine tH (v := ?_) 4 opAt4 ?_ hHeld ?_
 case refine_2 => (intro w hSw; have q0 := hSw.2.2 0 _ rfl; have q1 := hSw.2.2 1 _ rfl; have q2 := hSw.2.2 2 _ rfl; have q3 := hSw.2.2 3 _ rfl; have q4 := hSw.2.2 4 _ rfl; have q5 := hSw.2.2 5 _ rfl; have q6 := hSw.2.2 6 _ rfl; have q7 := hSw.2.2 7 _ rfl; clear hSw; go_simp; all_goals (with_reducible rfl))
 (try simp only [Act.put]); try simp only [z2, List.set]
 refine wpAnyH_ready (rs := [2]) (by kernel_rfl) (by simp) ?_
 refine AllReadyH.cons opAt2 (fun K hK => ?_) AllReadyH.nil
 go_simp
 go_at_call 73; refine (id_any x _).mono ?_; rintro e w5 ⟨rfl, k5⟩; have K5 := Lib.hid k5; dsimp only
 refine hK.out _ _ ?_ (fun hHeld => ?_)
 ·exact ⟨k5.cell hHeld.1 (fun f => f), hHeld.2.1.keptF k5, hHeld.2.2.keptF k5⟩
 clear hK K
 (try simp only [Act.put]); try simp only [z2, List.set]
 refine wpAnyH_ready (rs := [5]) (by kernel_rfl) (by simp) ?_
 refine AllReadyH.cons opAt5 (fun K hK => ?_) AllReadyH.nil
 go_simp
 go_at_call 73; refine (id_any y _).mono ?_; rintro e w6 ⟨rfl, k6⟩; have K6 := Lib.hid (keptFF K5.out k6); dsimp only
 refine hK.out _ _ ?_ (fun hHeld => ?_)
 ·exact ⟨k6.cell hHeld.1 (fun f => f), hHeld.2.1.keptF k6, hHeld.2.2.keptF k6⟩
 clear hK K
 (try simp only [Act.put]); try simp only [z2, List.set]
 refine tW 6 opAt6 hHeld ?_
 (try simp only [Act.put]); try simp only [z2, List.set]
 refine tW 7 opAt7 hHeld ?_
 (try simp only [Act.put]); try simp only [z2, List.set]
 refine wpAnyH_done (by kernel_rfl) ?_ _
 go_wp2
 go_ret
 exact ⟨rfl, keptFF (KW.out.drew) K6.out⟩

end Go.Proofs.Ytibakmchgppndaa
/- Structs of many cells that are loaded and stored whole; spans that change places in a row of one's own. -/
namespace Go.Proofs.Ytibakmchgppndaa
open Go.RowKit

theorem own_keptS {S : Nat → Prop} {w w' : World} {base e size : Nat} {v : Value} {n : Nat} {xs : List Value} (h : w.ownsRow base e size v n xs) (hK : Kept S w w') (hv : ∀ b, v.ownBlock = some b → ¬ S b) : w'.ownsRow base e size v n xs := by
 obtain ⟨h1, h2⟩ := h
 refine ⟨h1, ?_⟩
 rcases h2 with h2 | ⟨g, cap, cur, rfl, hb, hg, rest⟩
 ·exact .inl h2
 ·exact .inr ⟨g, cap, cur, rfl, hb, (hK.block g (Array.getElem?_eq_some_iff.1 hg).1 (hv g rfl)).trans hg, rest⟩

section
variable {P : Program} {ops : Array Oper} {o : Oper} {a : Act} {w : World} {K : Act → World → Prop} {Q : Exit → Act → World → Prop} {E : Prop}
theorem step_load (hgd : o.guard = none) (ty : TypeId) (x : Operand) (ho : o.op = .load ty x) (b f : Nat) (hx : a.eval x = .pointer (some ⟨b, f, none⟩)) (cs : List Value) (d : TypeDesc) (hc : w.rangeAt b f cs)
  (hu : P.underlying ty = some d) (hd : d.isRow = true) (hi : (P.info? ty).map (·.size) = some cs.length) (h : K (a.put o.dst (.agg cs.toArray)) w) :
  if Region.wanted o (yielded ops a.tmps) = true then Oper.wp P o a w K Q else E := by
 rw [if_pos (by simp [Region.wanted, hgd])]
 exact wp_load_mid ty x ho b f hx cs d hc hu hd hi h
theorem step_store (hgd : o.guard = none) (ty : TypeId) (x y : Operand) (ho : o.op = .store ty x y) (b f : Nat) (cs : List Value) (hx : a.eval x = .pointer (some ⟨b, f, none⟩)) (hy : a.eval y = .agg cs.toArray)
  (ht : w.there b f cs.length) (hi : (P.info? ty).map (·.size) = some cs.length) (h1 : cs.toArray.all (·.oneCell') = true) (h : K (a.put o.dst undef) (w.setCells b f cs)) :
  if Region.wanted o (yielded ops a.tmps) = true then Oper.wp P o a w K Q else E := by
 rw [if_pos (by simp [Region.wanted, hgd])]
 exact wp_store_mid ty x y ho b f cs.toArray hx hy (by simpa using ht) (by simpa using hi) h1 h
end

theorem wpAny_last {P : Program} {ops : Array Oper} {md : Region.Mode} {Q : Exit → Act → World → Prop} {i n : Nat} {o : Oper} {listed : Array Bool} {a : Act} {w : World} (hr : Region.ready md ops listed = [i]) (ho : ops[i]? = some o) (hn : Region.ready md ops (listed.setIfInBounds i true) = [])
  (h : ∀ K : Act → World → Prop, Hid (∀ a w, Q .normal a w → K a w) → if Region.wanted o (yielded ops a.tmps) = true then Oper.wp P o a w K Q else K (a.put o.dst undef) w) : wpAny P md ops Q (n + 1) listed a w :=
 wpAny_ready hr (by simp) (AllReady.cons ho (fun K hK => h K (Lib.hid (fun a w hq => hK a w (wpAny_done hn hq n)))) AllReady.nil)
theorem Kept.setCells {S : Nat → Prop} {a : World} {g : Nat} (hg : g < a.heap.size → S g) : ∀ (vs : List Value) (f : Nat) {w : World}, Kept S a w → Kept S a (w.setCells g f vs)
 | [], _, _, h => h
 | v :: r, f, _, h => Kept.setCells hg r (f + 1) (h.setCell (p := ⟨g, f, none⟩) hg v)
def setL : List Value → Nat → List Value → List Value
 | xs, _, [] => xs
 | xs, f, v :: r => setL (xs.set f v) (f + 1) r
theorem own_setL {base e size g n cap : Nat} : ∀ (vs : List Value) (f : Nat) {w : World} {xs : List Value}, w.ownsRow base e size (.slice (some ⟨g, 0, none⟩) n cap) n xs → (w.setCells g f vs).ownsRow base e size (.slice (some ⟨g, 0, none⟩) n cap) n (setL xs f vs)
 | [], _, _, _, h => h
 | v :: r, f, _, _, h => own_setL r (f + 1) (h.stored f v).1
theorem setL_append : ∀ (vs : List Value) (a xs : List Value) (f : Nat), setL (a ++ xs) (a.length + f) vs = a ++ setL xs f vs
 | [], _, _, _ => rfl
 | v :: r, a, xs, f => by
  simp only [setL]
  rw [List.set_append_right _ _ (by omega), show a.length + f - a.length = f by omega, show a.length + f + 1 = a.length + (f + 1) by omega]
  exact setL_append r a _ (f + 1)
theorem setL_spans : ∀ (L : List Spn) (i : Nat) (m : Spn), i < L.length → setL (cellsS L) (i * 8) m.cells = cellsS (L.set i m)
 | [], _, _, h => by simp at h
 | x :: t, 0, m, _ => by simp [cellsS, Spn.cells, setL]
 | x :: t, i + 1, m, h => by
  have e : (i + 1) * 8 = x.cells.length + i * 8 := by simp [Spn.cells]; omega
  rw [cellsS, e, setL_append, setL_spans t i m (by simpa using h)]
  rfl
theorem own_set {w : World} {base g n cap : Nat} {L : List Spn} (h : w.ownsRow base 37 8 (.slice (some ⟨g, 0, none⟩) n cap) n (cellsS L)) {i : Nat} (m : Spn) (hi : i < L.length) :
  (w.setCells g (i * 8) m.cells).ownsRow base 37 8 (.slice (some ⟨g, 0, none⟩) n cap) n (cellsS (L.set i m)) := by
 rw [← setL_spans L i m hi]; exact own_setL _ _ h
theorem own_range {w : World} {base g n cap : Nat} {L : List Spn} (h : w.ownsRow base 37 8 (.slice (some ⟨g, 0, none⟩) n cap) n (cellsS L)) {i : Nat} {m : Spn} (hm : L[i]? = some m) : w.rangeAt g (i * 8) m.cells := by
 intro j v hj
 have hl : j < 8 := by have := (List.getElem?_eq_some_iff.1 hj).1; simpa [Spn.cells] using this
 have := h.cells (g := g) rfl _ _ ((cellsS_at L i m hm j hl).trans hj)
 rwa [add_mid, Nat.zero_add] at this
theorem own_there {w : World} {base g n cap : Nat} {L : List Spn} (h : w.ownsRow base 37 8 (.slice (some ⟨g, 0, none⟩) n cap) n (cellsS L)) {i : Nat} (hi : i < L.length) : w.there g (i * 8) 8 := by
 intro j hj
 have hm : L[i]? = some L[i] := List.getElem?_eq_getElem hi
 have hc := own_range h hm
 have hl : j < (L[i]).cells.length := by simpa [Spn.cells] using hj
 refine ⟨?_, h.frozenAt _⟩
 rw [hc j _ (List.getElem?_eq_getElem hl)]; rfl
theorem isRow24 : ∃ d, Try.prog.underlying 37 = some d ∧ d.isRow = true := ⟨_, Try.underlying37, rfl⟩
theorem info24 : (Try.prog.info? 37).map (·.size) = some 8 := by kernel_rfl
theorem cells_all (m : Spn) : m.cells.toArray.all (·.oneCell') = true := all_oneCell_toArray (fun v hv => by
 simp [Spn.cells] at hv
 rcases hv with rfl | rfl | rfl | rfl | rfl | rfl | rfl | rfl <;> rfl)
theorem cmp_call (x y : Spn) (bk : Nat) (w : World) (h : w.cell? ⟨bk, 0, none⟩ = some (.func (.func 73) #[] #[])) :
  Calls Try.prog 86 #[.agg x.cells.toArray, .agg y.cells.toArray, .pointer (some ⟨bk, 0, none⟩)] w fun e w' => e = .returned (.int .i64 (cmpI x.id y.id)) ∧ Kept (fun _ => False) w w' := cmp_any x y bk w h
end Go.Proofs.Ytibakmchgppndaa
/- slices.insertionSortCmpFunc over spans. -/
namespace Go.Proofs.Ytibakmchgppndaa
open Go.RowKit

section
variable {α : Type} [Inhabited α]
def nth (l : List α) (i : Nat) : α := l.getD i default
def swapL (l : List α) (i j : Nat) : List α := (l.set i (nth l j)).set j (nth l i)
@[simp] theorem length_swapL (l : List α) (i j : Nat) : (swapL l i j).length = l.length := by simp [swapL]
theorem nth_get {l : List α} {k : Nat} (h : k < l.length) : l[k]? = some (nth l k) := by
 rw [List.getElem?_eq_getElem h]; simp [nth, h]
theorem nth_set (l : List α) (i k : Nat) (x : α) (hi : i < l.length) : nth (l.set i x) k = if k = i then x else nth l k := by
 unfold nth
 simp only [List.getD_eq_getElem?_getD, List.getElem?_set]
 by_cases h : k = i
 ·subst h; simp [hi]
 ·simp [h, Ne.symm h]
theorem nth_swap (l : List α) {i j : Nat} (hi : i < l.length) (hj : j < l.length) (k : Nat) : nth (swapL l i j) k = if k = j then nth l i else if k = i then nth l j else nth l k := by
 unfold swapL
 rw [nth_set _ _ _ _ (by simpa using hj), nth_set _ _ _ _ hi]
end
/-- The one at j goes forward as long as the one ahead of it has a greater ID. -/
def sinkF (a : Nat) (j : Nat) (L : List Spn) : List Spn :=
 if _h : a < j then (if (nth L j).id < (nth L (j - 1)).id then sinkF a (j - 1) (swapL L j (j - 1)) else L) else L
termination_by j
decreasing_by omega
def insF (a b : Nat) (i : Nat) (L : List Spn) : List Spn := if _h : i < b then insF a b (i + 1) (sinkF a i L) else L
termination_by b - i
decreasing_by omega
theorem sinkF_length (a : Nat) : ∀ (j : Nat) (L : List Spn), (sinkF a j L).length = L.length
 | j, L => by
  unfold sinkF
  split
  ·split
   ·rw [sinkF_length a (j - 1)]; simp
   ·rfl
  ·rfl
termination_by j => j
decreasing_by omega
theorem insF_length (a b : Nat) : ∀ (n i : Nat) (L : List Spn), b - i = n → (insF a b i L).length = L.length
 | 0, i, L, h => by unfold insF; rw [dif_neg (by omega)]
 | n + 1, i, L, h => by unfold insF; rw [dif_pos (by omega), insF_length a b n (i + 1) _ (by omega), sinkF_length]

def cmpV (bk : Nat) : Value := .func (.func 86) #[] #[.pointer (some ⟨bk, 0, none⟩)]
set_option maxHeartbeats 8000000 in
set_option maxRecDepth 100000 in
theorem tinsert_any {w : World} {base g n cap bk : Nat} {L : List Spn} (a b : Nat) (ho : w.ownsRow base 37 8 (.slice (some ⟨g, 0, none⟩) n cap) n (cellsS L)) (hl : L.length = n) (hab : a ≤ n) (hbn : b ≤ n) (hn : n ≤ 1000) (hk : w.cell? ⟨bk, 0, none⟩ = some (.func (.func 73) #[] #[])) (hne : bk ≠ g) :
  Calls Try.prog 60 #[.slice (some ⟨g, 0, none⟩) n cap, .int .i64 a, .int .i64 b, cmpV bk] w fun e w' => e = .returned (.tuple #[]) ∧ w'.ownsRow base 37 8 (.slice (some ⟨g, 0, none⟩) n cap) n (cellsS (insF a b (a + 1) L)) ∧ Kept (fun k => k = g) w w' := by
 have HO0 := Lib.hid ho; have HK0 := Lib.hid hk
 clear ho hk
 unfold cmpV
 go_enter Try.func60, Try.ntmps60
 go_wp2
 go_loopg [8] n (fun gh t wr => ∃ (i : Nat) (L1 : List Spn), i + gh = a + 1 + n ∧ a + 1 ≤ i ∧ t = .int .i64 i ∧ L1.length = n ∧ wr.ownsRow base 37 8 (.slice (some ⟨g, 0, none⟩) n cap) n (cellsS L1) ∧ insF a b i L1 = insF a b (a + 1) L ∧ Kept (fun k => k = g) w wr)
 case atStart => exact ⟨a + 1, L, by omega, by omega, by go_num, hl, HO0.out, rfl, Kept.refl _ _⟩
 case round =>
  obtain ⟨i, L1, hi, hai, rfl, hl1, ho1, ht1, k1⟩ := hrel
  have HO1 := Lib.hid ho1; have HT1 := Lib.hid ht1; have K1 := Lib.hid k1
  clear ho1 ht1 k1
  by_cases hib : i < b
  ·have e1 : (i : Int) < (b : Int) := by omega
   have hstep : insF a b i L1 = insF a b (i + 1) (sinkF a i L1) := by rw [insF, dif_pos hib]
   have ST := Lib.hid hstep
   clear hstep
   go_wp2
   go_loopg [9] i (fun gh t wr => ∃ (j : Nat) (L2 : List Spn), j = gh ∧ j ≤ i ∧ t = .int .i64 j ∧ L2.length = n ∧ wr.ownsRow base 37 8 (.slice (some ⟨g, 0, none⟩) n cap) n (cellsS L2) ∧ sinkF a j L2 = sinkF a i L1 ∧ Kept (fun k => k = g) w wr)
   case atStart => exact ⟨i, L1, rfl, Nat.le_refl _, rfl, hl1, HO1.out, rfl, K1.out⟩
   case round =>
    obtain ⟨j, L2, hjg, hji, rfl, hl2, ho2, ht2, k2⟩ := hrel
    have JG := Lib.hid hjg
    clear hjg
    have HOj := Lib.hid ho2; have HT := Lib.hid ht2; have K2 := Lib.hid k2
    have hb0 := k2.cell HK0.out hne
    clear ho2 ht2 k2
    by_cases haj : a < j
    ·obtain ⟨q, hq⟩ : ∃ q, j = q + 1 := ⟨j - 1, by omega⟩
     have hjl : j < L2.length := by omega
     have hql : q < L2.length := by omega
     obtain ⟨x, hx⟩ : ∃ x, nth L2 j = x := ⟨_, rfl⟩
     obtain ⟨y, hy⟩ : ∃ y, nth L2 q = y := ⟨_, rfl⟩
     have gx := nth_get hjl; have gy := nth_get hql
     rw [hx] at gx; rw [hy] at gy
     have rx := own_range HOj.out gx
     have ry := own_range HOj.out gy
     have d1 : decide (a < j) = true := by simp [haj]
     have d2 : decide ((a : Int) < (j : Int)) = true := by simp [haj]
     have i1 : (0 : Int) ≤ (j : Int) := by omega
     have i2 : (j : Int) < (n : Int) := by omega
     have i3 : (0 : Int) ≤ (q : Int) := by omega
     have i4 : (q : Int) < (n : Int) := by omega
     have e3 : IntKind.i64.wrap ((j : Int) - 1) = (q : Int) := by rw [show (j : Int) - 1 = (q : Int) by omega]; exact IntWalk.i64_in _ (by omega)
     have hsk : sinkF a j L2 = if x.id < y.id then sinkF a q (swapL L2 j q) else L2 := by
      rw [sinkF, dif_pos haj, show j - 1 = q by omega, hx, hy]
     have SK0 := Lib.hid hsk
     have HX := Lib.hid hx; have HY := Lib.hid hy; have HQ := Lib.hid hq; have GX := Lib.hid gx; have GY := Lib.hid gy
     clear hsk hx hy gx gy hq
     by_cases hlt : x.id < y.id
     ·have ec : cmpI x.id y.id < 0 := by unfold cmpI; rw [if_pos hlt]; omega
      have SK := Lib.hid (SK0.out.trans (if_pos hlt))
      go_wp2
      refine wp_region_held_drew (S := (fun w' => w'.cell? ⟨bk, 0, none⟩ = some (.func (.func 73) #[] #[]) ∧ w'.rangeAt g (j * 8) x.cells ∧ w'.rangeAt g (q * 8) y.cells)) (by kernel_rfl) ?_ (fun hHeld => ?_)
      ·exact ⟨hb0, rx, ry⟩
      refine tW 0 opAt0 hHeld ?_
      (try simp only [Act.put]); try simp only [z2, List.set]
      refine tW 1 opAt1 hHeld ?_
      (try simp only [Act.put]); try simp only [z2, List.set]
      refine tW 2 opAt2 hHeld ?_
      (try simp only [Act.put]); try simp only [z2, List.set]
      refine tW 3 opAt3 hHeld ?_
      (try simp only [Act.put]); try simp only [z2, List.set]
      refine tW 4 opAt4 hHeld ?_
      (try simp only [Act.put]); try simp only [z2, List.set]
      refine tW 5 opAt5 hHeld ?_
      (try simp only [Act.put]); try simp only [z2, List.set]
      refine tW 6 opAt6 hHeld ?_
      (try simp only [Act.put]); try simp only [z2, List.set]
      refine tW 7 opAt7 hHeld ?_
      (try simp only [Act.put]); try simp only [z2, List.set]
      refine wpAnyH_take (i := 8) (v := .agg x.cells.toArray) opAt8 (by kernel_rfl) (by kernel_rfl) (by kernel_rfl) (fun _ _ _ h => h) (yieldsIf_load_mid (by rfl) 37 _ (by rfl) g (j * 8) (by rfl) x.cells _ (fun w hS => hS.2.1) Try.underlying37 rfl info24) hHeld ?_
      (try simp only [Act.put]); try simp only [z2, List.set]
      refine tW 9 opAt9 hHeld ?_
      (try simp only [Act.put]); try simp only [z2, List.set]
      refine tW 10 opAt10 hHeld ?_
      (try simp only [Act.put]); try simp only [z2, List.set]
      refine tW 11 opAt11 hHeld ?_
      (try simp only [Act.put]); try simp only [z2, List.set]
      refine tW 12 opAt12 hHeld ?_
      (try simp only [Act.put]); try simp only [z2, List.set]
      refine wpAnyH_take (i := 13) (v := .agg y.cells.toArray) opAt13 (by kernel_rfl) (by kernel_rfl) (by kernel_rfl) (fun _ _ _ h => h) (yieldsIf_load_mid (by rfl) 37 _ (by rfl) g (q * 8) (by rfl) y.cells _ (fun w hS => hS.2.2) Try.underlying37 rfl info24) hHeld ?_
      (try simp only [Act.put]); try simp only [z2, List.set]
      refine wpAnyH_ready (rs := [14]) (by kernel_rfl) (by simp) ?_
      refine AllReadyH.cons opAt14 (fun K hK => ?_) AllReadyH.nil
      go_simp
      go_at_call 86; refine (cmp_call x y bk _ hHeld.1).mono ?_; rintro e w5 ⟨rfl, k5⟩; have K5 := Lib.hid k5; dsimp only
      refine hK.out _ _ ?_ (fun hHeld => ?_)
      ·exact ⟨k5.cell hHeld.1 (fun f => f), fun k v hv => k5.cell (hHeld.2.1 k v hv) (fun f => f), fun k v hv => k5.cell (hHeld.2.2 k v hv) (fun f => f)⟩
      clear hK K
      (try simp only [Act.put]); try simp only [z2, List.set]
      refine tW 15 opAt15 hHeld ?_
      (try simp only [Act.put]); try simp only [z2, List.set]
      refine tW 16 opAt16 hHeld ?_
      (try simp only [Act.put]); try simp only [z2, List.set]
      refine wpAnyH_done (by kernel_rfl) ?_ _
      have HO := Lib.hid ((own_keptS HOj.out.drew K5.out (fun _ _ f => f)).drew)
      have rx := own_range HO.out GX.out
      have ry := own_range HO.out GY.out
      have HO2 := Lib.hid (own_set HO.out y hjl)
      have FO := Lib.hid (show ((w5.drew.setCells g (j * 8) y.cells).setCells g (q * 8) x.cells).ownsRow base 37 8 (.slice (some ⟨g, 0, none⟩) n cap) n (cellsS (swapL L2 j q)) from by
       have h := own_set HO2.out x (i := q) (by simpa using hql)
       unfold swapL
       rw [HX.out, HY.out]
       exact h)
      have KF6 := Lib.hid (Kept.setCells (S := fun k => k = g) (fun _ => rfl) x.cells (q * 8) (Kept.setCells (S := fun k => k = g) (fun _ => rfl) y.cells (j * 8) ((K2.out.drew.trans (K5.out.mono (fun _ _ f => f.elim) : Kept (fun k => k = g) wr.drew w5) (fun _ _ h => h) (fun _ _ h => h) : Kept (fun k => k = g) w w5).drew)))
      go_wp2
      refine wp_region_any (by kernel_rfl) ?_
      simp only [List.size_toArray, List.length_cons, List.length_nil, Nat.zero_add, Nat.reduceAdd]
      refine tA (v := ?_) 0 opAt0 ?_ ?_
      case refine_2 => (intro w; go_simp; all_goals (with_reducible rfl))
      (try simp only [Act.put]); try simp only [z2, List.set]
      refine tA (v := ?_) 1 opAt1 ?_ ?_
      case refine_2 => (intro w; go_simp; all_goals (with_reducible rfl))
      (try simp only [Act.put]); try simp only [z2, List.set]
      refine tA (v := ?_) 2 opAt2 ?_ ?_
      case refine_2 => (intro w; go_simp; all_goals (with_reducible rfl))
      (try simp only [Act.put]); try simp only [z2, List.set]
      refine tA (v := ?_) 3 opAt3 ?_ ?_
      case refine_2 => (intro w; go_simp; all_goals (with_reducible rfl))
      (try simp only [Act.put]); try simp only [z2, List.set]
      refine tA (v := ?_) 4 opAt4 ?_ ?_
      case refine_2 => (intro w; go_simp; all_goals (with_reducible rfl))
      (try simp only [Act.put]); try simp only [z2, List.set]
      refine tA (v := ?_) 5 opAt5 ?_ ?_
      case refine_2 => (intro w; go_simp; all_goals (with_reducible rfl))
      (try simp only [Act.put]); try simp only [z2, List.set]
      refine tA (v := ?_) 6 opAt6 ?_ ?_
      case refine_2 => (intro w; go_simp; all_goals (with_reducible rfl))
      (try simp only [Act.put]); try simp only [z2, List.set]
      refine tA (v := ?_) 7 opAt7 ?_ ?_
      case refine_2 => (intro w; go_simp; all_goals (with_reducible rfl))
      (try simp only [Act.put]); try simp only [z2, List.set]
      refine tA (v := ?_) 8 opAt8 ?_ ?_
      case refine_2 => (intro w; go_simp; all_goals (with_reducible rfl))
      (try simp only [Act.put]); try simp only [z2, List.set]
      refine tA (v := ?_) 10 opAt10 ?_ ?_
      case refine_2 => (intro w; go_simp; all_goals (with_reducible rfl))
      (try simp only [Act.put]); try simp only [z2, List.set]
      refine tA (v := ?_) 11 opAt11 ?_ ?_
      case refine_2 => (intro w; go_simp; all_goals (with_reducible rfl))
      (try simp only [Act.put]); try simp only [z2, List.set]
      refine tA (v := ?_) 12 opAt12 ?_ ?_
      case refine_2 => (intro w; go_simp; all_goals (with_reducible rfl))
      (try simp only [Act.put]); try simp only [z2, List.set]
      refine wpAny_ready (rs := [9, 13]) (by kernel_rfl) (by simp) ?_
      refine AllReady.cons opAt9 (fun K hK => ?_) ?_
      ·refine step_load (by rfl) 37 _ (by rfl) g (q * 8) (by rfl) y.cells _ ry Try.underlying37 rfl info24 ?_
       refine hK _ _ ?_
       clear hK K
       (try simp only [Act.put]); try simp only [z2, List.set]
       refine wpAny_ready (rs := [13]) (by kernel_rfl) (by simp) ?_
       refine AllReady.cons opAt13 (fun K hK => ?_) AllReady.nil
       refine step_load (by rfl) 37 _ (by rfl) g (j * 8) (by rfl) x.cells _ rx Try.underlying37 rfl info24 ?_
       refine hK _ _ ?_
       clear hK K
       (try simp only [Act.put]); try simp only [z2, List.set]
       refine tA (v := ?_) 14 opAt14 ?_ ?_
       case refine_2 => (intro w; go_simp; all_goals (with_reducible rfl))
       (try simp only [Act.put]); try simp only [z2, List.set]
       refine wpAny_ready (rs := [15]) (by kernel_rfl) (by simp) ?_
       refine AllReady.cons opAt15 (fun K hK => ?_) AllReady.nil
       refine step_store (by rfl) 37 _ _ (by rfl) g (j * 8) y.cells (by rfl) (by rfl) (own_there HO.out hjl) info24 (cells_all y) ?_
       refine hK _ _ ?_
       clear hK K
       (try simp only [Act.put]); try simp only [z2, List.set]
       refine tA (v := ?_) 16 opAt16 ?_ ?_
       case refine_2 => (intro w; go_simp; all_goals (with_reducible rfl))
       (try simp only [Act.put]); try simp only [z2, List.set]
       generalize hW2 : World.setCells _ g (j * 8) y.cells = W2
       have HOb : Hid (W2.ownsRow base 37 8 (.slice (some ⟨g, 0, none⟩) n cap) n (cellsS (L2.set j y))) := Lib.hid (by rw [← hW2]; exact HO2.out)
       have FOb : Hid ((W2.setCells g (q * 8) x.cells).ownsRow base 37 8 (.slice (some ⟨g, 0, none⟩) n cap) n (cellsS (swapL L2 j q))) := Lib.hid (by rw [← hW2]; exact FO.out)
       have KFb : Hid (Kept (fun k => k = g) w (W2.setCells g (q * 8) x.cells)) := Lib.hid (by rw [← hW2]; exact KF6.out)
       clear hW2
       refine wpAny_last (i := 17) (o := ?o) ?hr ?ho ?hn ?h
       case ho => exact opAt17
       case hr => kernel_rfl
       case hn => kernel_rfl
       intro K hK
       refine step_store (by rfl) 37 _ _ (by rfl) g (q * 8) x.cells (by rfl) (by rfl) (own_there HOb.out (by simpa using hql)) info24 (cells_all x) ?_
       refine hK.out _ _ ?_
       clear hK K
       (try simp only [Act.put]); try simp only [z2, List.set]
       generalize hW3 : World.setCells W2 g (q * 8) x.cells = W3
       have FOc : Hid (W3.ownsRow base 37 8 (.slice (some ⟨g, 0, none⟩) n cap) n (cellsS (swapL L2 j q))) := Lib.hid (by rw [← hW3]; exact FOb.out)
       have KFc : Hid (Kept (fun k => k = g) w W3) := Lib.hid (by rw [← hW3]; exact KFb.out)
       clear hW3
       go_wp2
       go_roundg q
       case measure => have := JG.out; have := HQ.out; omega
       case rel => exact ⟨q, swapL L2 j q, rfl, by have := HQ.out; omega, by go_num, by simpa using hl2, FOc.out, SK.out.symm.trans HT.out, KFc.out⟩
      refine AllReady.cons opAt13 (fun K hK => ?_) AllReady.nil
      refine step_load (by rfl) 37 _ (by rfl) g (j * 8) (by rfl) x.cells _ rx Try.underlying37 rfl info24 ?_
      refine hK _ _ ?_
      clear hK K
      (try simp only [Act.put]); try simp only [z2, List.set]
      refine wpAny_ready (rs := [9]) (by kernel_rfl) (by simp) ?_
      refine AllReady.cons opAt9 (fun K hK => ?_) AllReady.nil
      refine step_load (by rfl) 37 _ (by rfl) g (q * 8) (by rfl) y.cells _ ry Try.underlying37 rfl info24 ?_
      refine hK _ _ ?_
      clear hK K
      (try simp only [Act.put]); try simp only [z2, List.set]
      refine tA (v := ?_) 14 opAt14 ?_ ?_
      case refine_2 => (intro w; go_simp; all_goals (with_reducible rfl))
      (try simp only [Act.put]); try simp only [z2, List.set]
      refine wpAny_ready (rs := [15]) (by kernel_rfl) (by simp) ?_
      refine AllReady.cons opAt15 (fun K hK => ?_) AllReady.nil
      refine step_store (by rfl) 37 _ _ (by rfl) g (j * 8) y.cells (by rfl) (by rfl) (own_there HO.out hjl) info24 (cells_all y) ?_
      refine hK _ _ ?_
      clear hK K
      (try simp only [Act.put]); try simp only [z2, List.set]
      refine tA (v := ?_) 16 opAt16 ?_ ?_
      case refine_2 => (intro w; go_simp; all_goals (with_reducible rfl))
      (try simp only [Act.put]); try simp only [z2, List.set]
      generalize hW2 : World.setCells _ g (j * 8) y.cells = W2
      have HOb : Hid (W2.ownsRow base 37 8 (.slice (some ⟨g, 0, none⟩) n cap) n (cellsS (L2.set j y))) := Lib.hid (by rw [← hW2]; exact HO2.out)
      have FOb : Hid ((W2.setCells g (q * 8) x.cells).ownsRow base 37 8 (.slice (some ⟨g, 0, none⟩) n cap) n (cellsS (swapL L2 j q))) := Lib.hid (by rw [← hW2]; exact FO.out)
      have KFb : Hid (Kept (fun k => k = g) w (W2.setCells g (q * 8) x.cells)) := Lib.hid (by rw [← hW2]; exact KF6.out)
      clear hW2
      refine wpAny_last (i := 17) (o := ?o) ?hr ?ho ?hn ?h
      case ho => exact opAt17
      case hr => kernel_rfl
      case hn => kernel_rfl
      intro K hK
      refine step_store (by rfl) 37 _ _ (by rfl) g (q * 8) x.cells (by rfl) (by rfl) (own_there HOb.out (by simpa using hql)) info24 (cells_all x) ?_
      refine hK.out _ _ ?_
      clear hK K
      (try simp only [Act.put]); try simp only [z2, List.set]
      generalize hW3 : World.setCells W2 g (q * 8) x.cells = W3
      have FOc : Hid (W3.ownsRow base 37 8 (.slice (some ⟨g, 0, none⟩) n cap) n (cellsS (swapL L2 j q))) := Lib.hid (by rw [← hW3]; exact FOb.out)
      have KFc : Hid (Kept (fun k => k = g) w W3) := Lib.hid (by rw [← hW3]; exact KFb.out)
      clear hW3
      go_wp2
      go_roundg q
      case measure => have := JG.out; have := HQ.out; omega
      case rel => exact ⟨q, swapL L2 j q, rfl, by have := HQ.out; omega, by go_num, by simpa using hl2, FOc.out, SK.out.symm.trans HT.out, KFc.out⟩
     ·have ec : ¬ cmpI x.id y.id < 0 := by unfold cmpI; rw [if_neg hlt]; split <;> omega
      have SK := Lib.hid (SK0.out.trans (if_neg hlt))
      go_wp2
      refine wp_region_held_drew (S := (fun w' => w'.cell? ⟨bk, 0, none⟩ = some (.func (.func 73) #[] #[]) ∧ w'.rangeAt g (j * 8) x.cells ∧ w'.rangeAt g (q * 8) y.cells)) (by kernel_rfl) ?_ (fun hHeld => ?_)
      ·exact ⟨hb0, rx, ry⟩
      refine tW 0 opAt0 hHeld ?_
      (try simp only [Act.put]); try simp only [z2, List.set]
      refine tW 1 opAt1 hHeld ?_
      (try simp only [Act.put]); try simp only [z2, List.set]
      refine tW 2 opAt2 hHeld ?_
      (try simp only [Act.put]); try simp only [z2, List.set]
      refine tW 3 opAt3 hHeld ?_
      (try simp only [Act.put]); try simp only [z2, List.set]
      refine tW 4 opAt4 hHeld ?_
      (try simp only [Act.put]); try simp only [z2, List.set]
      refine tW 5 opAt5 hHeld ?_
      (try simp only [Act.put]); try simp only [z2, List.set]
      refine tW 6 opAt6 hHeld ?_
      (try simp only [Act.put]); try simp only [z2, List.set]
      refine tW 7 opAt7 hHeld ?_
      (try simp only [Act.put]); try simp only [z2, List.set]
      refine wpAnyH_take (i := 8) (v := .agg x.cells.toArray) opAt8 (by kernel_rfl) (by kernel_rfl) (by kernel_rfl) (fun _ _ _ h => h) (yieldsIf_load_mid (by rfl) 37 _ (by rfl) g (j * 8) (by rfl) x.cells _ (fun w hS => hS.2.1) Try.underlying37 rfl info24) hHeld ?_
      (try simp only [Act.put]); try simp only [z2, List.set]
      refine tW 9 opAt9 hHeld ?_
      (try simp only [Act.put]); try simp only [z2, List.set]
      refine tW 10 opAt10 hHeld ?_
      (try simp only [Act.put]); try simp only [z2, List.set]
      refine tW 11 opAt11 hHeld ?_
      (try simp only [Act.put]); try simp only [z2, List.set]
      refine tW 12 opAt12 hHeld ?_
      (try simp only [Act.put]); try simp only [z2, List.set]
      refine wpAnyH_take (i := 13) (v := .agg y.cells.toArray) opAt13 (by kernel_rfl) (by kernel_rfl) (by kernel_rfl) (fun _ _ _ h => h) (yieldsIf_load_mid (by rfl) 37 _ (by rfl) g (q * 8) (by rfl) y.cells _ (fun w hS => hS.2.2) Try.underlying37 rfl info24) hHeld ?_
      (try simp only [Act.put]); try simp only [z2, List.set]
      refine wpAnyH_ready (rs := [14]) (by kernel_rfl) (by simp) ?_
      refine AllReadyH.cons opAt14 (fun K hK => ?_) AllReadyH.nil
      go_simp
      go_at_call 86; refine (cmp_call x y bk _ hHeld.1).mono ?_; rintro e w5 ⟨rfl, k5⟩; have K5 := Lib.hid k5; dsimp only
      refine hK.out _ _ ?_ (fun hHeld => ?_)
      ·exact ⟨k5.cell hHeld.1 (fun f => f), fun k v hv => k5.cell (hHeld.2.1 k v hv) (fun f => f), fun k v hv => k5.cell (hHeld.2.2 k v hv) (fun f => f)⟩
      clear hK K
      (try simp only [Act.put]); try simp only [z2, List.set]
      refine tW 15 opAt15 hHeld ?_
      (try simp only [Act.put]); try simp only [z2, List.set]
      refine tW 16 opAt16 hHeld ?_
      (try simp only [Act.put]); try simp only [z2, List.set]
      refine wpAnyH_done (by kernel_rfl) ?_ _
      have HO := Lib.hid (own_keptS HOj.out.drew K5.out (fun _ _ f => f))
      have KF6 := Lib.hid (K2.out.drew.trans (K5.out.mono (fun _ _ f => f.elim) : Kept (fun k => k = g) wr.drew w5) (fun _ _ h => h) (fun _ _ h => h) : Kept (fun k => k = g) w w5)
      have hL : L2 = sinkF a i L1 := SK.out.symm.trans HT.out
      have LE := Lib.hid hL
      clear hL
      go_wp2
      go_roundg (a + 1 + n - (i + 1))
      case measure => omega
      case rel => exact ⟨i + 1, L2, by omega, by omega, by go_num, hl2, HO.out, by rw [LE.out, ← ST.out]; exact HT1.out, KF6.out⟩
    ·have d1 : decide (a < j) = false := by simp [haj]
     have d2 : decide ((a : Int) < (j : Int)) = false := by simp; omega
     have SK := Lib.hid (show sinkF a j L2 = L2 by rw [sinkF, dif_neg haj])
     have hL : L2 = sinkF a i L1 := SK.out.symm.trans HT.out
     have LE := Lib.hid hL
     clear hL
     go_wp2
     refine wp_region_held_drew (S := (fun _ => True)) (by kernel_rfl) ?_ (fun hHeld => ?_)
     ·trivial
     refine tW 0 opAt0 hHeld ?_
     (try simp only [Act.put]); try simp only [z2, List.set]
     refine tW 1 opAt1 hHeld ?_
     (try simp only [Act.put]); try simp only [z2, List.set]
     refine tW 2 opAt2 hHeld ?_
     (try simp only [Act.put]); try simp only [z2, List.set]
     refine tW 3 opAt3 hHeld ?_
     (try simp only [Act.put]); try simp only [z2, List.set]
     refine tU 4 opAt4 hHeld ?_
     (try simp only [Act.put]); try simp only [z2, List.set]
     refine tU 5 opAt5 hHeld ?_
     (try simp only [Act.put]); try simp only [z2, List.set]
     refine tU 6 opAt6 hHeld ?_
     (try simp only [Act.put]); try simp only [z2, List.set]
     refine tU 7 opAt7 hHeld ?_
     (try simp only [Act.put]); try simp only [z2, List.set]
     refine tU 8 opAt8 hHeld ?_
     (try simp only [Act.put]); try simp only [z2, List.set]
     refine tU 9 opAt9 hHeld ?_
     (try simp only [Act.put]); try simp only [z2, List.set]
     refine tU 10 opAt10 hHeld ?_
     (try simp only [Act.put]); try simp only [z2, List.set]
     refine tU 11 opAt11 hHeld ?_
     (try simp only [Act.put]); try simp only [z2, List.set]
     refine tU 12 opAt12 hHeld ?_
     (try simp only [Act.put]); try simp only [z2, List.set]
     refine tU 13 opAt13 hHeld ?_
     (try simp only [Act.put]); try simp only [z2, List.set]
     refine tU 14 opAt14 hHeld ?_
     (try simp only [Act.put]); try simp only [z2, List.set]
     refine tU 15 opAt15 hHeld ?_
     (try simp only [Act.put]); try simp only [z2, List.set]
     refine tW 16 opAt16 hHeld ?_
     (try simp only [Act.put]); try simp only [z2, List.set]
     refine wpAnyH_done (by kernel_rfl) ?_ _
     go_wp2
     go_roundg (a + 1 + n - (i + 1))
     case measure => omega
     case rel => exact ⟨i + 1, L2, by omega, by omega, by go_num, hl2, HOj.out.drew, by rw [LE.out, ← ST.out]; exact HT1.out, K2.out.drew⟩
  ·have e1 : ¬ (i : Int) < (b : Int) := by omega
   have hend : insF a b i L1 = L1 := by rw [insF, dif_neg hib]
   have EN := Lib.hid (hend.symm.trans HT1.out)
   clear hend
   go_wp2
   go_end0
   exact ⟨rfl, by rw [← EN.out]; exact HO1.out, K1.out⟩
end Go.Proofs.Ytibakmchgppndaa
/- slices.swapRangeCmpFunc over spans. -/
namespace Go.Proofs.Ytibakmchgppndaa
open Go.RowKit

/-- The ones from a + k on change places with those from b + k on, as long as k < m. -/
def srF (a b m k : Nat) (L : List Spn) : List Spn := if _h : k < m then srF a b m (k + 1) (swapL L (a + k) (b + k)) else L
termination_by m - k
decreasing_by omega
theorem srF_length (a b m : Nat) : ∀ (n k : Nat) (L : List Spn), m - k = n → (srF a b m k L).length = L.length
 | 0, k, L, h => by unfold srF; rw [dif_neg (by omega)]
 | n + 1, k, L, h => by unfold srF; rw [dif_pos (by omega), srF_length a b m n (k + 1) _ (by omega)]; simp
set_option maxHeartbeats 8000000 in
set_option maxRecDepth 100000 in
theorem swaprange_any {w : World} {base g n cap : Nat} {L : List Spn} (f : Value) (a b m : Nat) (ho : w.ownsRow base 37 8 (.slice (some ⟨g, 0, none⟩) n cap) n (cellsS L)) (hl : L.length = n) (ha : a + m ≤ n) (hb : b + m ≤ n) (hn : n ≤ 1000) :
  Calls Try.prog 95 #[.slice (some ⟨g, 0, none⟩) n cap, .int .i64 a, .int .i64 b, .int .i64 m, f] w fun e w' => e = .returned (.tuple #[]) ∧ w'.ownsRow base 37 8 (.slice (some ⟨g, 0, none⟩) n cap) n (cellsS (srF a b m 0 L)) ∧ Kept (fun k => k = g) w w' := by
 have HO0 := Lib.hid ho
 clear ho
 go_enter Try.func95, Try.ntmps95
 go_wp2
 go_loopg [10] m (fun gh t wr => ∃ (k : Nat) (L1 : List Spn), k + gh = m ∧ t = .int .i64 k ∧ L1.length = n ∧ wr.ownsRow base 37 8 (.slice (some ⟨g, 0, none⟩) n cap) n (cellsS L1) ∧ srF a b m k L1 = srF a b m 0 L ∧ Kept (fun k => k = g) w wr)
 case atStart => exact ⟨0, L, by omega, rfl, hl, HO0.out, rfl, Kept.refl _ _⟩
 case round =>
  obtain ⟨k, L1, hk, rfl, hl1, ho1, ht1, k1⟩ := hrel
  have HO1 := Lib.hid ho1; have HT1 := Lib.hid ht1; have K1 := Lib.hid k1
  clear ho1 ht1 k1
  by_cases hkm : k < m
  ·have e0 : (k : Int) < (m : Int) := by omega
   have hstep : srF a b m k L1 = srF a b m (k + 1) (swapL L1 (a + k) (b + k)) := by rw [srF, dif_pos hkm]
   obtain ⟨p, hp⟩ : ∃ p, a + k = p := ⟨_, rfl⟩
   obtain ⟨q, hq⟩ : ∃ q, b + k = q := ⟨_, rfl⟩
   rw [hp, hq] at hstep
   have ST := Lib.hid hstep
   have hjl : p < L1.length := by omega
   have hql : q < L1.length := by omega
   obtain ⟨x, hx⟩ : ∃ x, nth L1 p = x := ⟨_, rfl⟩
   obtain ⟨y, hy⟩ : ∃ y, nth L1 q = y := ⟨_, rfl⟩
   have gx := nth_get hjl; have gy := nth_get hql
   rw [hx] at gx; rw [hy] at gy
   have GX := Lib.hid gx; have GY := Lib.hid gy; have HX := Lib.hid hx; have HY := Lib.hid hy
   have i1 : (0 : Int) ≤ (p : Int) := by omega
   have i2 : (p : Int) < (n : Int) := by omega
   have i3 : (0 : Int) ≤ (q : Int) := by omega
   have i4 : (q : Int) < (n : Int) := by omega
   have e3 : IntKind.i64.wrap ((a : Int) + (k : Int)) = (p : Int) := by rw [show (a : Int) + (k : Int) = (p : Int) by omega]; exact IntWalk.i64_in _ (by omega)
   have e4 : IntKind.i64.wrap ((b : Int) + (k : Int)) = (q : Int) := by rw [show (b : Int) + (k : Int) = (q : Int) by omega]; exact IntWalk.i64_in _ (by omega)
   clear hstep gx gy hx hy hp hq
   have HO := Lib.hid ((HO1.out).drew)
   have rx := own_range HO.out GX.out
   have ry := own_range HO.out GY.out
   have HO2 := Lib.hid (own_set HO.out y hjl)
   have FO := Lib.hid (show ((wr.drew.setCells g (p * 8) y.cells).setCells g (q * 8) x.cells).ownsRow base 37 8 (.slice (some ⟨g, 0, none⟩) n cap) n (cellsS (swapL L1 p q)) from by
    have h := own_set HO2.out x (i := q) (by simpa using hql)
    unfold swapL
    rw [HX.out, HY.out]
    exact h)
   have KF6 := Lib.hid (Kept.setCells (S := fun k => k = g) (fun _ => rfl) x.cells (q * 8) (Kept.setCells (S := fun k => k = g) (fun _ => rfl) y.cells (p * 8) ((K1.out).drew)))
   go_wp2
   refine wp_region_any (by kernel_rfl) ?_
   simp only [List.size_toArray, List.length_cons, List.length_nil, Nat.zero_add, Nat.reduceAdd]
   refine tA (v := ?_) 0 opAt0 ?_ ?_
   case refine_2 => (intro w; go_simp; all_goals (with_reducible rfl))
   (try simp only [Act.put]); try simp only [z2, List.set]
   refine tA (v := ?_) 1 opAt1 ?_ ?_
   case refine_2 => (intro w; go_simp; all_goals (with_reducible rfl))
   (try simp only [Act.put]); try simp only [z2, List.set]
   refine tA (v := ?_) 2 opAt2 ?_ ?_
   case refine_2 => (intro w; go_simp; all_goals (with_reducible rfl))
   (try simp only [Act.put]); try simp only [z2, List.set]
   refine tA (v := ?_) 3 opAt3 ?_ ?_
   case refine_2 => (intro w; go_simp; all_goals (with_reducible rfl))
   (try simp only [Act.put]); try simp only [z2, List.set]
   refine tA (v := ?_) 4 opAt4 ?_ ?_
   case refine_2 => (intro w; go_simp; all_goals (with_reducible rfl))
   (try simp only [Act.put]); try simp only [z2, List.set]
   refine tA (v := ?_) 5 opAt5 ?_ ?_
   case refine_2 => (intro w; go_simp; all_goals (with_reducible rfl))
   (try simp only [Act.put]); try simp only [z2, List.set]
   refine tA (v := ?_) 6 opAt6 ?_ ?_
   case refine_2 => (intro w; go_simp; all_goals (with_reducible rfl))
   (try simp only [Act.put]); try simp only [z2, List.set]
   refine tA (v := ?_) 7 opAt7 ?_ ?_
   case refine_2 => (intro w; go_simp; all_goals (with_reducible rfl))
   (try simp only [Act.put]); try simp only [z2, List.set]
   refine tA (v := ?_) 8 opAt8 ?_ ?_
   case refine_2 => (intro w; go_simp; all_goals (with_reducible rfl))
   (try simp only [Act.put]); try simp only [z2, List.set]
   refine tA (v := ?_) 9 opAt9 ?_ ?_
   case refine_2 => (intro w; go_simp; all_goals (with_reducible rfl))
   (try simp only [Act.put]); try simp only [z2, List.set]
   refine tA (v := ?_) 10 opAt10 ?_ ?_
   case refine_2 => (intro w; go_simp; all_goals (with_reducible rfl))
   (try simp only [Act.put]); try simp only [z2, List.set]
   refine tA (v := ?_) 11 opAt11 ?_ ?_
   case refine_2 => (intro w; go_simp; all_goals (with_reducible rfl))
   (try simp only [Act.put]); try simp only [z2, List.set]
   refine tA (v := ?_) 12 opAt12 ?_ ?_
   case refine_2 => (intro w; go_simp; all_goals (with_reducible rfl))
   (try simp only [Act.put]); try simp only [z2, List.set]
   refine tA (v := ?_) 14 opAt14 ?_ ?_
   case refine_2 => (intro w; go_simp; all_goals (with_reducible rfl))
   (try simp only [Act.put]); try simp only [z2, List.set]
   refine tA (v := ?_) 15 opAt15 ?_ ?_
   case refine_2 => (intro w; go_simp; all_goals (with_reducible rfl))
   (try simp only [Act.put]); try simp only [z2, List.set]
   refine tA (v := ?_) 16 opAt16 ?_ ?_
   case refine_2 => (intro w; go_simp; all_goals (with_reducible rfl))
   (try simp only [Act.put]); try simp only [z2, List.set]
   refine tA (v := ?_) 17 opAt17 ?_ ?_
   case refine_2 => (intro w; go_simp; all_goals (with_reducible rfl))
   (try simp only [Act.put]); try simp only [z2, List.set]
   refine tA (v := ?_) 18 opAt18 ?_ ?_
   case refine_2 => (intro w; go_simp; all_goals (with_reducible rfl))
   (try simp only [Act.put]); try simp only [z2, List.set]
   refine wpAny_ready (rs := [13, 19]) (by kernel_rfl) (by simp) ?_
   refine AllReady.cons opAt13 (fun K hK => ?_) ?_
   ·refine step_load (by rfl) 37 _ (by rfl) g (q * 8) (by rfl) y.cells _ ry Try.underlying37 rfl info24 ?_
    refine hK _ _ ?_
    clear hK K
    (try simp only [Act.put]); try simp only [z2, List.set]
    refine wpAny_ready (rs := [19]) (by kernel_rfl) (by simp) ?_
    refine AllReady.cons opAt19 (fun K hK => ?_) AllReady.nil
    refine step_load (by rfl) 37 _ (by rfl) g (p * 8) (by rfl) x.cells _ rx Try.underlying37 rfl info24 ?_
    refine hK _ _ ?_
    clear hK K
    (try simp only [Act.put]); try simp only [z2, List.set]
    refine tA (v := ?_) 20 opAt20 ?_ ?_
    case refine_2 => (intro w; go_simp; all_goals (with_reducible rfl))
    (try simp only [Act.put]); try simp only [z2, List.set]
    refine wpAny_ready (rs := [21]) (by kernel_rfl) (by simp) ?_
    refine AllReady.cons opAt21 (fun K hK => ?_) AllReady.nil
    refine step_store (by rfl) 37 _ _ (by rfl) g (p * 8) y.cells (by rfl) (by rfl) (own_there HO.out hjl) info24 (cells_all y) ?_
    refine hK _ _ ?_
    clear hK K
    (try simp only [Act.put]); try simp only [z2, List.set]
    refine tA (v := ?_) 22 opAt22 ?_ ?_
    case refine_2 => (intro w; go_simp; all_goals (with_reducible rfl))
    (try simp only [Act.put]); try simp only [z2, List.set]
    generalize hW2 : World.setCells _ g (p * 8) y.cells = W2
    have HOb : Hid (W2.ownsRow base 37 8 (.slice (some ⟨g, 0, none⟩) n cap) n (cellsS (L1.set p y))) := Lib.hid (by rw [← hW2]; exact HO2.out)
    have FOb : Hid ((W2.setCells g (q * 8) x.cells).ownsRow base 37 8 (.slice (some ⟨g, 0, none⟩) n cap) n (cellsS (swapL L1 p q))) := Lib.hid (by rw [← hW2]; exact FO.out)
    have KFb : Hid (Kept (fun k => k = g) w (W2.setCells g (q * 8) x.cells)) := Lib.hid (by rw [← hW2]; exact KF6.out)
    clear hW2
    refine wpAny_last (i := 23) (o := ?o) ?hr ?ho ?hn ?h
    case ho => exact opAt23
    case hr => kernel_rfl
    case hn => kernel_rfl
    intro K hK
    refine step_store (by rfl) 37 _ _ (by rfl) g (q * 8) x.cells (by rfl) (by rfl) (own_there HOb.out (by simpa using hql)) info24 (cells_all x) ?_
    refine hK.out _ _ ?_
    clear hK K
    (try simp only [Act.put]); try simp only [z2, List.set]
    generalize hW3 : World.setCells W2 g (q * 8) x.cells = W3
    have FOc : Hid (W3.ownsRow base 37 8 (.slice (some ⟨g, 0, none⟩) n cap) n (cellsS (swapL L1 p q))) := Lib.hid (by rw [← hW3]; exact FOb.out)
    have KFc : Hid (Kept (fun k => k = g) w W3) := Lib.hid (by rw [← hW3]; exact KFb.out)
    clear hW3
    go_wp2
    go_roundg (m - k - 1)
    case measure => omega
    case rel => exact ⟨k + 1, swapL L1 p q, by omega, by go_num, by simpa using hl1, FOc.out, ST.out.symm.trans HT1.out, KFc.out⟩
   refine AllReady.cons opAt19 (fun K hK => ?_) AllReady.nil
   refine step_load (by rfl) 37 _ (by rfl) g (p * 8) (by rfl) x.cells _ rx Try.underlying37 rfl info24 ?_
   refine hK _ _ ?_
   clear hK K
   (try simp only [Act.put]); try simp only [z2, List.set]
   refine wpAny_ready (rs := [13]) (by kernel_rfl) (by simp) ?_
   refine AllReady.cons opAt13 (fun K hK => ?_) AllReady.nil
   refine step_load (by rfl) 37 _ (by rfl) g (q * 8) (by rfl) y.cells _ ry Try.underlying37 rfl info24 ?_
   refine hK _ _ ?_
   clear hK K
   (try simp only [Act.put]); try simp only [z2, List.set]
   refine tA (v := ?_) 20 opAt20 ?_ ?_
   case refine_2 => (intro w; go_simp; all_goals (with_reducible rfl))
   (try simp only [Act.put]); try simp only [z2, List.set]
   refine wpAny_ready (rs := [21]) (by kernel_rfl) (by simp) ?_
   refine AllReady.cons opAt21 (fun K hK => ?_) AllReady.nil
   refine step_store (by rfl) 37 _ _ (by rfl) g (p * 8) y.cells (by rfl) (by rfl) (own_there HO.out hjl) info24 (cells_all y) ?_
   refine hK _ _ ?_
   clear hK K
   (try simp only [Act.put]); try simp only [z2, List.set]
   refine tA (v := ?_) 22 opAt22 ?_ ?_
   case refine_2 => (intro w; go_simp; all_goals (with_reducible rfl))
   (try simp only [Act.put]); try simp only [z2, List.set]
   generalize hW2 : World.setCells _ g (p * 8) y.cells = W2
   have HOb : Hid (W2.ownsRow base 37 8 (.slice (some ⟨g, 0, none⟩) n cap) n (cellsS (L1.set p y))) := Lib.hid (by rw [← hW2]; exact HO2.out)
   have FOb : Hid ((W2.setCells g (q * 8) x.cells).ownsRow base 37 8 (.slice (some ⟨g, 0, none⟩) n cap) n (cellsS (swapL L1 p q))) := Lib.hid (by rw [← hW2]; exact FO.out)
   have KFb : Hid (Kept (fun k => k = g) w (W2.setCells g (q * 8) x.cells)) := Lib.hid (by rw [← hW2]; exact KF6.out)
   clear hW2
   refine wpAny_last (i := 23) (o := ?o) ?hr ?ho ?hn ?h
   case ho => exact opAt23
   case hr => kernel_rfl
   case hn => kernel_rfl
   intro K hK
   refine step_store (by rfl) 37 _ _ (by rfl) g (q * 8) x.cells (by rfl) (by rfl) (own_there HOb.out (by simpa using hql)) info24 (cells_all x) ?_
   refine hK.out _ _ ?_
   clear hK K
   (try simp only [Act.put]); try simp only [z2, List.set]
   generalize hW3 : World.setCells W2 g (q * 8) x.cells = W3
   have FOc : Hid (W3.ownsRow base 37 8 (.slice (some ⟨g, 0, none⟩) n cap) n (cellsS (swapL L1 p q))) := Lib.hid (by rw [← hW3]; exact FOb.out)
   have KFc : Hid (Kept (fun k => k = g) w W3) := Lib.hid (by rw [← hW3]; exact KFb.out)
   clear hW3
   go_wp2
   go_roundg (m - k - 1)
   case measure => omega
   case rel => exact ⟨k + 1, swapL L1 p q, by omega, by go_num, by simpa using hl1, FOc.out, ST.out.symm.trans HT1.out, KFc.out⟩
  ·have e0 : ¬ (k : Int) < (m : Int) := by omega
   have hend : srF a b m k L1 = L1 := by rw [srF, dif_neg hkm]
   have EN := Lib.hid (hend.symm.trans HT1.out)
   clear hend
   go_wp2
   go_end0
   exact ⟨rfl, by rw [← EN.out]; exact HO1.out, K1.out⟩
end Go.Proofs.Ytibakmchgppndaa
